/- The law's awake returns true. -/
import Derived.Test.YthigfjelgbdcfaaDoorGAwakeP
import Derived.Test.YthigfjelgbdcfaaDoorGStill

set_option linter.unusedSimpArgs false
set_option linter.unusedVariables false

/-! The law's awake. -/
namespace Go.Proofs.YthigfjelgbdcfaaDoor
open Go.RowKit Go.Maps

theorem sl_new {W : World} {cs : List Value} {n m cap : Nat} {t : TypeId} (h : W.heap[m]? = some (.cells cs.toArray t (0, 0))) : Sl W (.slice (some ⟨m, 0, none⟩) n cap) n cs :=
  ⟨_, cap, rfl, fun _ => ⟨m, 0, rfl, (Array.getElem?_eq_some_iff.1 h).1, fun j v hj => by
    rw [Nat.zero_add]
    exact blk_cell h (by simpa using hj)⟩⟩

/-- what stands from the law's first memory on -/
def Aw (w W : World) (b13 : Nat) (a5 : Option Addr) (c5 : Nat) (a7 : Option Addr) (c7 : Nat) (a13 : Option Addr) (c13 : Nat) : Prop :=
  One w W 1 1 1 ∧ W.heap[b13]? = some (memBox a13 14 c13) ∧ Sl W (.slice a5 7 c5) 7 (u64s [1, 13, 5, 0, 0, 0, 0]) ∧ Sl W (.slice a7 1 c7) 1 (wrs [(13, 5)]) ∧ Sl W (.slice a13 14 c13) 14 (cls (List.replicate 14 (0, 0)))
theorem aw_call {w W W' : World} {b13 : Nat} {a5 : Option Addr} {c5 : Nat} {a7 : Option Addr} {c7 : Nat} {a13 : Option Addr} {c13 : Nat} (h : Aw w W b13 a5 c5 a7 c7 a13 c13) (hb : Below W.heap.size W W') : Aw w W' b13 a5 c5 a7 c7 a13 c13 :=
  ⟨one_call h.1 hb, (hb.block _ (Array.getElem?_eq_some_iff.1 h.2.1).1).trans h.2.1, h.2.2.1.below hb, h.2.2.2.1.below hb, h.2.2.2.2.below hb⟩
theorem aw_cells {w W : World} {b13 : Nat} {a5 : Option Addr} {c5 : Nat} {a7 : Option Addr} {c7 : Nat} {a13 : Option Addr} {c13 : Nat} (h : Aw w W b13 a5 c5 a7 c7 a13 c13) :
    W.cell? ⟨w.heap.size, 0, none⟩ = some (.int .i64 1) ∧ W.cell? ⟨w.heap.size, 1, none⟩ = some (.int .i64 1) ∧ W.cell? ⟨w.heap.size, 2, none⟩ = some (.int .i64 1) ∧ W.cell? ⟨b13, 0, none⟩ = some (.slice a13 14 c13) ∧ True ∧ True :=
  ⟨blk_cell h.1.2 rfl, blk_cell h.1.2 rfl, blk_cell h.1.2 rfl, blk_cell h.2.1 rfl, trivial, trivial⟩

set_option linter.unusedSimpArgs false in
set_option maxRecDepth 100000 in
set_option maxHeartbeats 4000000 in
theorem awake_true (w : World) (ho : Objs w) : Calls Tryd.prog 5 #[] w fun e w' => e = .returned (.bool true) ∧ Below w.heap.size w w' := by
  have HO := Lib.hid ho
  clear ho
  go_enter Tryd.func5, Tryd.ntmps5
  go_wp2_with fail
  have T0 := one_start w 1 1 1
  refine (wSpot_ok 1 1 1 0 0 _ (HO.out.below T0.1) aw_fit (by omega) (by omega) (by omega) (by rw [aw_home]; omega)).mono ?_
  rintro e w1 ⟨he, hb⟩
  rw [show spotV (atN 1 1 1 3 0) 0 = .tuple #[.int .i64 7, .int .i64 8, .int .i64 0] by rw [aw_at]; simp [spotV]] at he
  subst he
  have T1 := Lib.hid (one_call T0 hb)
  obtain ⟨c0, c1, c2, hz⟩ := one_cells T1.out
  clear T0 hb
  go_wp2_with fail
  have D1 := blk_alloc w1 (.cells #[.int .i64 13, .int .u64 5] 71)
  have CP := wPack 1 1 1 (.slice (some ⟨w1.heap.size, 0, none⟩) 1 1) [(13, 5)] 1 _ (HO.out.below (one_call T1.out D1).1) rfl (sl_new (World.alloc_heap_new w1 _)) (by intro x hx; simp at hx; subst hx; rfl)
  rw [aw_pack] at CP
  refine CP.mono ?_
  rintro e w2 ⟨v5, rfl, hv, hb⟩
  obtain ⟨a5, c5, rfl⟩ := owns_slice hv
  have V5 : Hid (Sl w2 (.slice a5 7 c5) 7 (u64s [1, 13, 5, 0, 0, 0, 0])) := Lib.hid (sl_of_owns hv)
  have T2 := Lib.hid (one_call (one_call T1.out D1) hb)
  obtain ⟨c0, c1, c2, hz⟩ := one_cells T2.out
  clear CP D1 hv hb T1
  go_wp2_with fail
  have D1 := blk_alloc w2 (.cells (u64s [1, 13, 5, 0, 0, 0, 0]).toArray 28)
  have CU := wUn 1 1 1 (.slice (some ⟨w2.heap.size, 0, none⟩) 7 7) [1, 13, 5, 0, 0, 0, 0] 7 _ (HO.out.below (one_call T2.out D1).1) rfl (sl_new (World.alloc_heap_new w2 _)) (by intro x hx; simp at hx; omega)
  rw [aw_un] at CU
  refine CU.mono ?_
  rintro e w3 ⟨v7, rfl, hv, hb⟩
  obtain ⟨a7, c7, rfl⟩ := owns_slice hv
  have V7 : Hid (Sl w3 (.slice a7 1 c7) 1 (wrs [(13, 5)])) := Lib.hid (sl_of_owns hv)
  have V5 := Lib.hid ((V5.out.below D1).below hb)
  have T3 := Lib.hid (one_call (one_call T2.out D1) hb)
  obtain ⟨c0, c1, c2, hz⟩ := one_cells T3.out
  clear CU D1 hv hb T2
  go_wp2_with fail
  have D1 := blk_alloc w3 (.cells #[.int .i64 12, .int .u64 5] 71)
  have CP := wPack 1 1 1 (.slice (some ⟨w3.heap.size, 0, none⟩) 1 1) [(12, 5)] 1 _ (HO.out.below (one_call T3.out D1).1) rfl (sl_new (World.alloc_heap_new w3 _)) (by intro x hx; simp at hx; subst hx; rfl)
  rw [aw_pack2] at CP
  refine CP.mono ?_
  rintro e w4 ⟨v9, rfl, hv, hb⟩
  obtain ⟨a9, c9, rfl⟩ := owns_slice hv
  have V5 := Lib.hid ((V5.out.below D1).below hb)
  have V7 := Lib.hid ((V7.out.below D1).below hb)
  have T4 := Lib.hid (one_call (one_call T3.out D1) hb)
  obtain ⟨c0, c1, c2, hz⟩ := one_cells T4.out
  clear CP D1 hv hb T3
  go_wp2_with fail
  have D1 := blk_alloc w4 (.cells (u64s [1, 13, 5, 0, 0, 0, 1]).toArray 28)
  have CU := wUn 1 1 1 (.slice (some ⟨w4.heap.size, 0, none⟩) 7 7) [1, 13, 5, 0, 0, 0, 1] 7 _ (HO.out.below (one_call T4.out D1).1) rfl (sl_new (World.alloc_heap_new w4 _)) (by intro x hx; simp at hx; omega)
  rw [aw_un2] at CU
  refine CU.mono ?_
  rintro e w5 ⟨v11, rfl, hv, hb⟩
  obtain ⟨a11, c11, rfl⟩ := owns_slice hv
  have V5 := Lib.hid ((V5.out.below D1).below hb)
  have V7 := Lib.hid ((V7.out.below D1).below hb)
  have T5 := Lib.hid (one_call (one_call T4.out D1) hb)
  obtain ⟨c0, c1, c2, hz⟩ := one_cells T5.out
  clear CU D1 hv hb T4
  go_wp2_with fail
  refine (fNew 14 w5 (by omega)).mono ?_
  rintro e w6 ⟨⟨v13, rfl, hv⟩, hb⟩
  obtain ⟨a13, c13, rfl⟩ := owns_slice hv
  have V13 := Lib.hid (sl_of_owns hv)
  have V5 := Lib.hid (V5.out.below hb)
  have V7 := Lib.hid (V7.out.below hb)
  have T6 := Lib.hid (one_call T5.out hb)
  obtain ⟨c0, c1, c2, hz⟩ := one_cells T6.out
  clear hv hb T5
  go_wp2_with fail
  have T7 : Aw w (w6.alloc (memBox a13 14 c13)) w6.heap.size a5 c5 a7 c7 a13 c13 := ⟨one_call T6.out (blk_alloc _ _), World.alloc_heap_new w6 _, V5.out.below (blk_alloc _ _), V7.out.below (blk_alloc _ _), V13.out.below (blk_alloc _ _)⟩
  have CW : Hid (∀ W, Aw w W w6.heap.size a5 c5 a7 c7 a13 c13 → Calls Tryd.prog 20 #[conf 1 1 1, .agg #[.slice a13 14 c13], .int .i64 0, .slice a5 7 c5] W fun e w' => ∃ v, e = .returned (.agg #[v]) ∧ w'.ownsRow 0 68 2 v 14 (cls awM) ∧ Below W.heap.size W w') := Lib.hid (fun W h => (lWith 1 1 1 0 a13 c13 (List.replicate 14 (0, 0)) 14 6 7 7 (.slice a5 7 c5) [1, 13, 5, 0, 0, 0, 0] W aw_fit (by omega) (by omega) aw_log (by omega) aw_at (by omega) (by simp) (by omega) h.2.2.2.2 rfl (by omega) h.2.2.1).mono (by
    rintro e w' ⟨⟨v, rfl, hv⟩, hb⟩
    rw [aw_with] at hv
    exact ⟨v, rfl, owns_base hv (by omega), hb⟩))
  have CY : Hid (∀ W v, Aw w W w6.heap.size a5 c5 a7 c7 a13 c13 → Sl W v 14 (cls awM) → Calls Tryd.prog 21 #[conf 1 1 1, .agg #[v], .int .i64 0] W fun e w' => ∃ ax cx, e = .returned (.tuple #[.agg #[.slice ax 14 cx], .int .i64 0]) ∧ w'.ownsRow 0 68 2 (.slice ax 14 cx) 14 (cls awX) ∧ Below W.heap.size W w') := Lib.hid (fun W v h hv => (wLay 1 1 1 0 v awM 14 W (HO.out.below h.1.1) rfl (by omega) hv aw_memM).mono (by
    rw [aw_lay]
    rintro e w' ⟨v, rfl, hv, hb⟩
    obtain ⟨ax, cx, rfl⟩ := owns_slice hv
    exact ⟨ax, cx, rfl, owns_base hv (by omega), hb⟩))
  have CI : Hid (∀ W v, Aw w W w6.heap.size a5 c5 a7 c7 a13 c13 → Sl W v 14 (cls awX) → Calls Tryd.prog 23 #[conf 1 1 1, .agg #[v], .int .i64 0] W fun e w' => ∃ ax cx, e = .returned (.tuple #[.agg #[.slice ax 14 cx], .int .i64 0]) ∧ w'.ownsRow 0 68 2 (.slice ax 14 cx) 14 (cls awY) ∧ Below W.heap.size W w') := Lib.hid (fun W v h hv => (wWipe 1 1 1 0 v awX 14 W (HO.out.below h.1.1) rfl (by omega) hv).mono (by
    rw [aw_wipe]
    rintro e w' ⟨v, rfl, hv, hb⟩
    obtain ⟨ax, cx, rfl⟩ := owns_slice hv
    exact ⟨ax, cx, rfl, owns_base hv (by omega), hb⟩))
  have HA := Lib.hid (aw_call T7 (Below.refl _ _).drew)
  clear T7 V5 V7 V13 T6 c0 c1 c2
  refine bxh_start (S := fun W => W.cell? ⟨w.heap.size, 0, none⟩ = some (.int .i64 1) ∧ W.cell? ⟨w.heap.size, 1, none⟩ = some (.int .i64 1) ∧ W.cell? ⟨w.heap.size, 2, none⟩ = some (.int .i64 1) ∧ W.cell? ⟨w6.heap.size, 0, none⟩ = some (.slice a13 14 c13) ∧ True ∧ True) (by kernel_rfl) ?_
  have hS : (fun W : World => W.cell? ⟨w.heap.size, 0, none⟩ = some (.int .i64 1) ∧ W.cell? ⟨w.heap.size, 1, none⟩ = some (.int .i64 1) ∧ W.cell? ⟨w.heap.size, 2, none⟩ = some (.int .i64 1) ∧ W.cell? ⟨w6.heap.size, 0, none⟩ = some (.slice a13 14 c13) ∧ True ∧ True) _ := aw_cells HA.out
  generalize hW7 : (World.drew (World.alloc w6 _)) = W7 at *
  have hz7 : w.heap.size < w6.heap.size ∧ w6.heap.size < W7.heap.size := ⟨hz, by rw [← hW7]; simp⟩
  have hB := Below.refl W7.heap.size W7
  clear hW7 hz
  refine bxh_take (i := 0) (v := ?_) rfl (by kernel_rfl) (by kernel_rfl) (by kernel_rfl) (fun _ _ _ h => h) (Or.inl ⟨by kernel_rfl, ?_⟩) (by assumption) ?_; rotate_left; (intro w hSw; obtain ⟨q0, q1, q2, q3, q4, q5⟩ := hSw; go_simp <;> with_reducible rfl); (simp only [Act.put, List.getElem_toArray, List.getElem_cons_zero, List.getElem_cons_succ, List.setIfInBounds_toArray, List.set_cons_zero, List.set_cons_succ])
  refine bxh_take (i := 1) (v := ?_) rfl (by kernel_rfl) (by kernel_rfl) (by kernel_rfl) (fun _ _ _ h => h) (Or.inl ⟨by kernel_rfl, ?_⟩) (by assumption) ?_; rotate_left; (intro w hSw; obtain ⟨q0, q1, q2, q3, q4, q5⟩ := hSw; go_simp <;> with_reducible rfl); (simp only [Act.put, List.getElem_toArray, List.getElem_cons_zero, List.getElem_cons_succ, List.setIfInBounds_toArray, List.set_cons_zero, List.set_cons_succ])
  refine bxh_take (i := 2) (v := ?_) rfl (by kernel_rfl) (by kernel_rfl) (by kernel_rfl) (fun _ _ _ h => h) (Or.inl ⟨by kernel_rfl, ?_⟩) (by assumption) ?_; rotate_left; (intro w hSw; obtain ⟨q0, q1, q2, q3, q4, q5⟩ := hSw; go_simp <;> with_reducible rfl); (simp only [Act.put, List.getElem_toArray, List.getElem_cons_zero, List.getElem_cons_succ, List.setIfInBounds_toArray, List.set_cons_zero, List.set_cons_succ])
  refine bxh_take (i := 3) (v := ?_) rfl (by kernel_rfl) (by kernel_rfl) (by kernel_rfl) (fun _ _ _ h => h) (Or.inl ⟨by kernel_rfl, ?_⟩) (by assumption) ?_; rotate_left; (intro w hSw; obtain ⟨q0, q1, q2, q3, q4, q5⟩ := hSw; go_simp <;> with_reducible rfl); (simp only [Act.put, List.getElem_toArray, List.getElem_cons_zero, List.getElem_cons_succ, List.setIfInBounds_toArray, List.set_cons_zero, List.set_cons_succ])
  refine bxh_two (i := 4) (j := 9) (by kernel_rfl) rfl rfl (fun K hK => ?_) (fun K hK => ?_)
  · go_simp
    refine (CW.out _ (aw_call HA.out hB)).mono ?_
    rintro e w8 ⟨vm, rfl, hv, hb⟩
    have hB := hB.trans (hb.mono hB.size)
    have VM := Lib.hid hv
    clear hb hv
    refine hK.out _ _ (aw_cells (aw_call HA.out hB)) (fun hS => ?_)
    clear hK K
    refine bxh_two (i := 5) (j := 9) (by kernel_rfl) rfl rfl (fun K hK => ?_) (fun K hK => ?_)
    · go_simp
      refine (CY.out _ _ (aw_call HA.out hB) (sl_of_owns VM.out)).mono ?_
      rintro e w9 ⟨ax, cx, rfl, hv, hb⟩
      have hB := hB.trans (hb.mono hB.size)
      have VX := Lib.hid hv
      clear hb hv
      refine hK.out _ _ (aw_cells (aw_call HA.out hB)) (fun hS => ?_)
      clear hK K
      refine bxh_take (i := 6) (v := ?_) rfl (by kernel_rfl) (by kernel_rfl) (by kernel_rfl) (fun _ _ _ h => h) (Or.inl ⟨by kernel_rfl, ?_⟩) (by assumption) ?_; rotate_left; (intro w hSw; obtain ⟨q0, q1, q2, q3, q4, q5⟩ := hSw; go_simp <;> with_reducible rfl); (simp only [Act.put, List.getElem_toArray, List.getElem_cons_zero, List.getElem_cons_succ, List.setIfInBounds_toArray, List.set_cons_zero, List.set_cons_succ])
      refine bxh_take (i := 7) (v := ?_) rfl (by kernel_rfl) (by kernel_rfl) (by kernel_rfl) (fun _ _ _ h => h) (Or.inl ⟨by kernel_rfl, ?_⟩) (by assumption) ?_; rotate_left; (intro w hSw; obtain ⟨q0, q1, q2, q3, q4, q5⟩ := hSw; go_simp <;> with_reducible rfl); (simp only [Act.put, List.getElem_toArray, List.getElem_cons_zero, List.getElem_cons_succ, List.setIfInBounds_toArray, List.set_cons_zero, List.set_cons_succ])
      refine bxh_take (i := 8) (v := ?_) rfl (by kernel_rfl) (by kernel_rfl) (by kernel_rfl) (fun _ _ _ h => h) (Or.inl ⟨by kernel_rfl, ?_⟩) (by assumption) ?_; rotate_left; (intro w hSw; obtain ⟨q0, q1, q2, q3, q4, q5⟩ := hSw; go_simp <;> with_reducible rfl); (simp only [Act.put, List.getElem_toArray, List.getElem_cons_zero, List.getElem_cons_succ, List.setIfInBounds_toArray, List.set_cons_zero, List.set_cons_succ])
      refine bxh_next (i := 9) (by kernel_rfl) rfl (fun K hK => ?_)
      go_simp
      obtain ⟨bx, hbx⟩ : ∃ bx, w9.heap.size = bx := ⟨_, rfl⟩
      have hbl : W7.heap.size ≤ bx := hbx ▸ hB.size
      obtain ⟨wa, hwa⟩ : ∃ wa, w9.alloc (memBox none 0 0) = wa := ⟨_, rfl⟩
      have hZ : wa.heap[bx]? = some (memBox none 0 0) := by rw [← hwa, ← hbx]; exact World.alloc_heap_new _ _
      have hB : Below W7.heap.size W7 wa := by rw [← hwa]; exact hB.alloc hB.size _
      have VX := Lib.hid (show wa.ownsRow 0 68 2 _ 14 _ from by rw [← hwa]; exact VX.out.alloc _)
      rw [hbx]
      change K _ _
      refine hK.out _ _ (hwa ▸ aw_cells (aw_call HA.out hB)) (fun hS => ?_)
      change Bx (wpAnyH _ _ _ _ _ _ _ _ ?_)
      rw [hwa]
      rw [hwa] at hS
      clear hK K hbx
      have fz := blk_frozen hZ (i := 0)
      have cz := blk_cell hZ (i := 0) (v := .slice none 0 0) rfl
      refine bxh_next (i := 10) (by kernel_rfl) rfl (fun K hK => ?_)
      go_simp
      have VX := Lib.hid (owns_set VX.out hZ (by decide) (.slice ax 14 cx) 0)
      have hZ := blk_set hZ (i := 0) (.slice ax 14 cx)
      have hB := hB.setCell (p := ⟨bx, 0, none⟩) hbl (.slice ax 14 cx)
      generalize (World.setCell wa _ _) = ws at *
      refine hK.out _ _ (aw_cells (aw_call HA.out hB)) (fun hS => ?_)
      clear hK K
      refine bxh_take (i := 11) (v := ?_) rfl (by kernel_rfl) (by kernel_rfl) (by kernel_rfl) (fun _ _ _ h => h) (Or.inl ⟨by kernel_rfl, ?_⟩) (by assumption) ?_; rotate_left; (intro w hSw; obtain ⟨q0, q1, q2, q3, q4, q5⟩ := hSw; go_simp <;> with_reducible rfl); (simp only [Act.put, List.getElem_toArray, List.getElem_cons_zero, List.getElem_cons_succ, List.setIfInBounds_toArray, List.set_cons_zero, List.set_cons_succ])
      refine bxh_done (by kernel_rfl) ?_ _
      clear hS fz cz
      obtain ⟨c0, c1, c2, _, _, _⟩ := aw_cells (aw_call HA.out hB)
      have hzz := hB.size
      have y15 := blk_cell hZ (i := 0) (v := .slice ax 14 cx) rfl
      go_wp2_with fail
      refine (CI.out _ _ (aw_call HA.out hB) (sl_of_owns VX.out)).mono ?_
      rintro e w10 ⟨ay, cy, rfl, hv, hb⟩
      obtain ⟨wb, hwb⟩ : ∃ wb, w10.alloc (memBox ay 14 cy) = wb := ⟨_, rfl⟩
      have hbb : Below ws.heap.size ws wb := by rw [← hwb]; exact hb.alloc hb.size _
      obtain ⟨bY, hbY⟩ : ∃ bY, w10.heap.size = bY := ⟨_, rfl⟩
      have hY : wb.heap[bY]? = some (memBox ay 14 cy) := by rw [← hwb, ← hbY]; exact World.alloc_heap_new _ _
      have VY := Lib.hid (show wb.ownsRow 0 68 2 (.slice ay 14 cy) 14 (cls awY) from by rw [← hwb]; exact hv.alloc _)
      have VX := Lib.hid (owns_below VX.out hbb)
      have hZ := (hbb.block _ (Array.getElem?_eq_some_iff.1 hZ).1).trans hZ
      have hB := hB.trans (hbb.mono hB.size)
      clear hb hv hbb c0 c1 c2
      obtain ⟨c0, c1, c2, _, _, _⟩ := aw_cells (aw_call HA.out hB)
      have hzz := hB.size
      go_wp2_with fail
      have CPl := wPlace 1 1 1 12 wb (HO.out.below (aw_call HA.out hB).1.1) (by omega) (by omega)
      rw [aw_p12] at CPl
      refine CPl.mono ?_
      rintro e w11 ⟨he, hb⟩
      rw [show plc false 12 = .tuple #[.int .i64 0, .bool false] from rfl] at he
      subst he
      have VY := Lib.hid (owns_below VY.out hb)
      have VX := Lib.hid (owns_below VX.out hb)
      have hZ := (hb.block _ (Array.getElem?_eq_some_iff.1 hZ).1).trans hZ
      have hY := (hb.block _ (Array.getElem?_eq_some_iff.1 hY).1).trans hY
      have hB := hB.trans (hb.mono hB.size)
      clear CPl hb c0 c1 c2
      obtain ⟨c0, c1, c2, _, _, _⟩ := aw_cells (aw_call HA.out hB)
      have hzz := hB.size
      have y15 := blk_cell hZ (i := 0) (v := .slice ax 14 cx) rfl
      have y17 := blk_cell hY (i := 0) (v := .slice ay 14 cy) rfl
      go_wp2_with fail
      have D1 := blk_alloc w11 (.cells (u64s [1, 13, 5, 0, 0, 0, 0]).toArray 28)
      have CWo := words (.slice a5 7 c5) (.slice (some ⟨w11.heap.size, 0, none⟩) 7 7) [1, 13, 5, 0, 0, 0, 0] [1, 13, 5, 0, 0, 0, 0] _ ((aw_call HA.out hB).2.2.1.below D1) (sl_new (World.alloc_heap_new w11 _)) (by simp)
      rw [show decide (([1, 13, 5, 0, 0, 0, 0] : List Int) = [1, 13, 5, 0, 0, 0, 0]) = true from rfl] at CWo
      refine CWo.mono ?_
      rintro e w12 ⟨rfl, hb'⟩
      have hb := D1.trans (hb'.mono (by simp))
      have VY := Lib.hid (owns_below VY.out hb)
      have VX := Lib.hid (owns_below VX.out hb)
      have hZ := (hb.block _ (Array.getElem?_eq_some_iff.1 hZ).1).trans hZ
      have hY := (hb.block _ (Array.getElem?_eq_some_iff.1 hY).1).trans hY
      have hB := hB.trans (hb.mono hB.size)
      clear CWo hb hb' D1 c0 c1 c2 y15 y17
      obtain ⟨c0, c1, c2, _, _, _⟩ := aw_cells (aw_call HA.out hB)
      have hzz := hB.size
      have y15 := blk_cell hZ (i := 0) (v := .slice ax 14 cx) rfl
      have y17 := blk_cell hY (i := 0) (v := .slice ay 14 cy) rfl
      go_wp2_with fail
      have D1 := blk_alloc w12 (.cells #[.int .i64 13, .int .u64 5] 71)
      have CWr := writes (.slice a7 1 c7) (.slice (some ⟨w12.heap.size, 0, none⟩) 1 1) [(13, 5)] [(13, 5)] _ ((aw_call HA.out hB).2.2.2.1.below D1) (sl_new (World.alloc_heap_new w12 _)) (by simp)
      rw [show decide (([(13, 5)] : List (Int × Int)) = [(13, 5)]) = true from rfl] at CWr
      refine CWr.mono ?_
      rintro e w13 ⟨rfl, hb'⟩
      have hb := D1.trans (hb'.mono (by simp))
      have VY := Lib.hid (owns_below VY.out hb)
      have VX := Lib.hid (owns_below VX.out hb)
      have hZ := (hb.block _ (Array.getElem?_eq_some_iff.1 hZ).1).trans hZ
      have hY := (hb.block _ (Array.getElem?_eq_some_iff.1 hY).1).trans hY
      have hB := hB.trans (hb.mono hB.size)
      clear CWr hb hb' D1 c0 c1 c2 y15 y17
      obtain ⟨gx, cx', hvx, _, hgx⟩ := World.ownsRow.form VX.out (by omega)
      cases hvx
      obtain ⟨gy, cy', hvy, _, hgy⟩ := World.ownsRow.form VY.out (by omega)
      cases hvy
      have x13 : w13.cell? ⟨gx, 26, none⟩ = some (.int .u64 5) := by have := VX.out.cells (g := gx) rfl 26 (.int .u64 5) rfl; rwa [add_at] at this
      have x6 : w13.cell? ⟨gx, 12, none⟩ = some (.int .u64 1) := by have := VX.out.cells (g := gx) rfl 12 (.int .u64 1) rfl; rwa [add_at] at this
      have z13 : w13.cell? ⟨gy, 26, none⟩ = some (.int .u64 5) := by have := VY.out.cells (g := gy) rfl 26 (.int .u64 5) rfl; rwa [add_at] at this
      have z6 : w13.cell? ⟨gy, 12, none⟩ = some (.int .u64 0) := by have := VY.out.cells (g := gy) rfl 12 (.int .u64 0) rfl; rwa [add_at] at this
      have y15 := blk_cell hZ (i := 0) (v := .slice (some ⟨gx, 0, none⟩) 14 cx) rfl
      have y17 := blk_cell hY (i := 0) (v := .slice (some ⟨gy, 0, none⟩) 14 cy) rfl
      have HBf := Lib.hid (aw_call HA.out hB).1.1
      go_wp2
      go_ret
      exact ⟨rfl, HBf.out⟩
    · go_simp
      obtain ⟨bx, hbx⟩ : ∃ bx, w8.heap.size = bx := ⟨_, rfl⟩
      have hbl : W7.heap.size ≤ bx := hbx ▸ hB.size
      obtain ⟨wa, hwa⟩ : ∃ wa, w8.alloc (memBox none 0 0) = wa := ⟨_, rfl⟩
      have hZ : wa.heap[bx]? = some (memBox none 0 0) := by rw [← hwa, ← hbx]; exact World.alloc_heap_new _ _
      have hB : Below W7.heap.size W7 wa := by rw [← hwa]; exact hB.alloc hB.size _
      have VM := Lib.hid (show wa.ownsRow 0 68 2 _ 14 _ from by rw [← hwa]; exact VM.out.alloc _)
      rw [hbx]
      change K _ _
      refine hK.out _ _ (hwa ▸ aw_cells (aw_call HA.out hB)) (fun hS => ?_)
      change Bx (wpAnyH _ _ _ _ _ _ _ _ ?_)
      rw [hwa]
      rw [hwa] at hS
      clear hK K hbx
      refine bxh_next (i := 5) (by kernel_rfl) rfl (fun K hK => ?_)
      go_simp
      refine (CY.out _ _ (aw_call HA.out hB) (sl_of_owns VM.out)).mono ?_
      rintro e w9 ⟨ax, cx, rfl, hv, hb⟩
      have hZ := (hb.block _ (Array.getElem?_eq_some_iff.1 hZ).1).trans hZ
      have hB := hB.trans (hb.mono hB.size)
      have VX := Lib.hid hv
      clear hb hv
      refine hK.out _ _ (aw_cells (aw_call HA.out hB)) (fun hS => ?_)
      clear hK K
      refine bxh_take (i := 6) (v := ?_) rfl (by kernel_rfl) (by kernel_rfl) (by kernel_rfl) (fun _ _ _ h => h) (Or.inl ⟨by kernel_rfl, ?_⟩) (by assumption) ?_; rotate_left; (intro w hSw; obtain ⟨q0, q1, q2, q3, q4, q5⟩ := hSw; go_simp <;> with_reducible rfl); (simp only [Act.put, List.getElem_toArray, List.getElem_cons_zero, List.getElem_cons_succ, List.setIfInBounds_toArray, List.set_cons_zero, List.set_cons_succ])
      refine bxh_take (i := 7) (v := ?_) rfl (by kernel_rfl) (by kernel_rfl) (by kernel_rfl) (fun _ _ _ h => h) (Or.inl ⟨by kernel_rfl, ?_⟩) (by assumption) ?_; rotate_left; (intro w hSw; obtain ⟨q0, q1, q2, q3, q4, q5⟩ := hSw; go_simp <;> with_reducible rfl); (simp only [Act.put, List.getElem_toArray, List.getElem_cons_zero, List.getElem_cons_succ, List.setIfInBounds_toArray, List.set_cons_zero, List.set_cons_succ])
      refine bxh_take (i := 8) (v := ?_) rfl (by kernel_rfl) (by kernel_rfl) (by kernel_rfl) (fun _ _ _ h => h) (Or.inl ⟨by kernel_rfl, ?_⟩) (by assumption) ?_; rotate_left; (intro w hSw; obtain ⟨q0, q1, q2, q3, q4, q5⟩ := hSw; go_simp <;> with_reducible rfl); (simp only [Act.put, List.getElem_toArray, List.getElem_cons_zero, List.getElem_cons_succ, List.setIfInBounds_toArray, List.set_cons_zero, List.set_cons_succ])
      obtain ⟨wa, rfl⟩ : ∃ wa : World, wa = w9 := ⟨_, rfl⟩
      have fz := blk_frozen hZ (i := 0)
      have cz := blk_cell hZ (i := 0) (v := .slice none 0 0) rfl
      refine bxh_next (i := 10) (by kernel_rfl) rfl (fun K hK => ?_)
      go_simp
      have VX := Lib.hid (owns_set VX.out hZ (by decide) (.slice ax 14 cx) 0)
      have hZ := blk_set hZ (i := 0) (.slice ax 14 cx)
      have hB := hB.setCell (p := ⟨bx, 0, none⟩) hbl (.slice ax 14 cx)
      generalize (World.setCell wa _ _) = ws at *
      refine hK.out _ _ (aw_cells (aw_call HA.out hB)) (fun hS => ?_)
      clear hK K
      refine bxh_take (i := 11) (v := ?_) rfl (by kernel_rfl) (by kernel_rfl) (by kernel_rfl) (fun _ _ _ h => h) (Or.inl ⟨by kernel_rfl, ?_⟩) (by assumption) ?_; rotate_left; (intro w hSw; obtain ⟨q0, q1, q2, q3, q4, q5⟩ := hSw; go_simp <;> with_reducible rfl); (simp only [Act.put, List.getElem_toArray, List.getElem_cons_zero, List.getElem_cons_succ, List.setIfInBounds_toArray, List.set_cons_zero, List.set_cons_succ])
      refine bxh_done (by kernel_rfl) ?_ _
      clear hS fz cz
      obtain ⟨c0, c1, c2, _, _, _⟩ := aw_cells (aw_call HA.out hB)
      have hzz := hB.size
      have y15 := blk_cell hZ (i := 0) (v := .slice ax 14 cx) rfl
      go_wp2_with fail
      refine (CI.out _ _ (aw_call HA.out hB) (sl_of_owns VX.out)).mono ?_
      rintro e w10 ⟨ay, cy, rfl, hv, hb⟩
      obtain ⟨wb, hwb⟩ : ∃ wb, w10.alloc (memBox ay 14 cy) = wb := ⟨_, rfl⟩
      have hbb : Below ws.heap.size ws wb := by rw [← hwb]; exact hb.alloc hb.size _
      obtain ⟨bY, hbY⟩ : ∃ bY, w10.heap.size = bY := ⟨_, rfl⟩
      have hY : wb.heap[bY]? = some (memBox ay 14 cy) := by rw [← hwb, ← hbY]; exact World.alloc_heap_new _ _
      have VY := Lib.hid (show wb.ownsRow 0 68 2 (.slice ay 14 cy) 14 (cls awY) from by rw [← hwb]; exact hv.alloc _)
      have VX := Lib.hid (owns_below VX.out hbb)
      have hZ := (hbb.block _ (Array.getElem?_eq_some_iff.1 hZ).1).trans hZ
      have hB := hB.trans (hbb.mono hB.size)
      clear hb hv hbb c0 c1 c2
      obtain ⟨c0, c1, c2, _, _, _⟩ := aw_cells (aw_call HA.out hB)
      have hzz := hB.size
      go_wp2_with fail
      have CPl := wPlace 1 1 1 12 wb (HO.out.below (aw_call HA.out hB).1.1) (by omega) (by omega)
      rw [aw_p12] at CPl
      refine CPl.mono ?_
      rintro e w11 ⟨he, hb⟩
      rw [show plc false 12 = .tuple #[.int .i64 0, .bool false] from rfl] at he
      subst he
      have VY := Lib.hid (owns_below VY.out hb)
      have VX := Lib.hid (owns_below VX.out hb)
      have hZ := (hb.block _ (Array.getElem?_eq_some_iff.1 hZ).1).trans hZ
      have hY := (hb.block _ (Array.getElem?_eq_some_iff.1 hY).1).trans hY
      have hB := hB.trans (hb.mono hB.size)
      clear CPl hb c0 c1 c2
      obtain ⟨c0, c1, c2, _, _, _⟩ := aw_cells (aw_call HA.out hB)
      have hzz := hB.size
      have y15 := blk_cell hZ (i := 0) (v := .slice ax 14 cx) rfl
      have y17 := blk_cell hY (i := 0) (v := .slice ay 14 cy) rfl
      go_wp2_with fail
      have D1 := blk_alloc w11 (.cells (u64s [1, 13, 5, 0, 0, 0, 0]).toArray 28)
      have CWo := words (.slice a5 7 c5) (.slice (some ⟨w11.heap.size, 0, none⟩) 7 7) [1, 13, 5, 0, 0, 0, 0] [1, 13, 5, 0, 0, 0, 0] _ ((aw_call HA.out hB).2.2.1.below D1) (sl_new (World.alloc_heap_new w11 _)) (by simp)
      rw [show decide (([1, 13, 5, 0, 0, 0, 0] : List Int) = [1, 13, 5, 0, 0, 0, 0]) = true from rfl] at CWo
      refine CWo.mono ?_
      rintro e w12 ⟨rfl, hb'⟩
      have hb := D1.trans (hb'.mono (by simp))
      have VY := Lib.hid (owns_below VY.out hb)
      have VX := Lib.hid (owns_below VX.out hb)
      have hZ := (hb.block _ (Array.getElem?_eq_some_iff.1 hZ).1).trans hZ
      have hY := (hb.block _ (Array.getElem?_eq_some_iff.1 hY).1).trans hY
      have hB := hB.trans (hb.mono hB.size)
      clear CWo hb hb' D1 c0 c1 c2 y15 y17
      obtain ⟨c0, c1, c2, _, _, _⟩ := aw_cells (aw_call HA.out hB)
      have hzz := hB.size
      have y15 := blk_cell hZ (i := 0) (v := .slice ax 14 cx) rfl
      have y17 := blk_cell hY (i := 0) (v := .slice ay 14 cy) rfl
      go_wp2_with fail
      have D1 := blk_alloc w12 (.cells #[.int .i64 13, .int .u64 5] 71)
      have CWr := writes (.slice a7 1 c7) (.slice (some ⟨w12.heap.size, 0, none⟩) 1 1) [(13, 5)] [(13, 5)] _ ((aw_call HA.out hB).2.2.2.1.below D1) (sl_new (World.alloc_heap_new w12 _)) (by simp)
      rw [show decide (([(13, 5)] : List (Int × Int)) = [(13, 5)]) = true from rfl] at CWr
      refine CWr.mono ?_
      rintro e w13 ⟨rfl, hb'⟩
      have hb := D1.trans (hb'.mono (by simp))
      have VY := Lib.hid (owns_below VY.out hb)
      have VX := Lib.hid (owns_below VX.out hb)
      have hZ := (hb.block _ (Array.getElem?_eq_some_iff.1 hZ).1).trans hZ
      have hY := (hb.block _ (Array.getElem?_eq_some_iff.1 hY).1).trans hY
      have hB := hB.trans (hb.mono hB.size)
      clear CWr hb hb' D1 c0 c1 c2 y15 y17
      obtain ⟨gx, cx', hvx, _, hgx⟩ := World.ownsRow.form VX.out (by omega)
      cases hvx
      obtain ⟨gy, cy', hvy, _, hgy⟩ := World.ownsRow.form VY.out (by omega)
      cases hvy
      have x13 : w13.cell? ⟨gx, 26, none⟩ = some (.int .u64 5) := by have := VX.out.cells (g := gx) rfl 26 (.int .u64 5) rfl; rwa [add_at] at this
      have x6 : w13.cell? ⟨gx, 12, none⟩ = some (.int .u64 1) := by have := VX.out.cells (g := gx) rfl 12 (.int .u64 1) rfl; rwa [add_at] at this
      have z13 : w13.cell? ⟨gy, 26, none⟩ = some (.int .u64 5) := by have := VY.out.cells (g := gy) rfl 26 (.int .u64 5) rfl; rwa [add_at] at this
      have z6 : w13.cell? ⟨gy, 12, none⟩ = some (.int .u64 0) := by have := VY.out.cells (g := gy) rfl 12 (.int .u64 0) rfl; rwa [add_at] at this
      have y15 := blk_cell hZ (i := 0) (v := .slice (some ⟨gx, 0, none⟩) 14 cx) rfl
      have y17 := blk_cell hY (i := 0) (v := .slice (some ⟨gy, 0, none⟩) 14 cy) rfl
      have HBf := Lib.hid (aw_call HA.out hB).1.1
      go_wp2
      go_ret
      exact ⟨rfl, HBf.out⟩
  · go_simp
    obtain ⟨bx, hbx⟩ : ∃ bx, W7.heap.size = bx := ⟨_, rfl⟩
    have hbl : W7.heap.size ≤ bx := hbx ▸ hB.size
    obtain ⟨wa, hwa⟩ : ∃ wa, W7.alloc (memBox none 0 0) = wa := ⟨_, rfl⟩
    have hZ : wa.heap[bx]? = some (memBox none 0 0) := by rw [← hwa, ← hbx]; exact World.alloc_heap_new _ _
    have hB : Below W7.heap.size W7 wa := by rw [← hwa]; exact hB.alloc hB.size _
    rw [hbx]
    change K _ _
    refine hK.out _ _ (hwa ▸ aw_cells (aw_call HA.out hB)) (fun hS => ?_)
    change Bx (wpAnyH _ _ _ _ _ _ _ _ ?_)
    rw [hwa]
    rw [hwa] at hS
    clear hK K hbx
    refine bxh_next (i := 4) (by kernel_rfl) rfl (fun K hK => ?_)
    go_simp
    refine (CW.out _ (aw_call HA.out hB)).mono ?_
    rintro e w8 ⟨vm, rfl, hv, hb⟩
    have hZ := (hb.block _ (Array.getElem?_eq_some_iff.1 hZ).1).trans hZ
    have hB := hB.trans (hb.mono hB.size)
    have VM := Lib.hid hv
    clear hb hv
    refine hK.out _ _ (aw_cells (aw_call HA.out hB)) (fun hS => ?_)
    clear hK K
    refine bxh_next (i := 5) (by kernel_rfl) rfl (fun K hK => ?_)
    go_simp
    refine (CY.out _ _ (aw_call HA.out hB) (sl_of_owns VM.out)).mono ?_
    rintro e w9 ⟨ax, cx, rfl, hv, hb⟩
    have hZ := (hb.block _ (Array.getElem?_eq_some_iff.1 hZ).1).trans hZ
    have hB := hB.trans (hb.mono hB.size)
    have VX := Lib.hid hv
    clear hb hv
    refine hK.out _ _ (aw_cells (aw_call HA.out hB)) (fun hS => ?_)
    clear hK K
    refine bxh_take (i := 6) (v := ?_) rfl (by kernel_rfl) (by kernel_rfl) (by kernel_rfl) (fun _ _ _ h => h) (Or.inl ⟨by kernel_rfl, ?_⟩) (by assumption) ?_; rotate_left; (intro w hSw; obtain ⟨q0, q1, q2, q3, q4, q5⟩ := hSw; go_simp <;> with_reducible rfl); (simp only [Act.put, List.getElem_toArray, List.getElem_cons_zero, List.getElem_cons_succ, List.setIfInBounds_toArray, List.set_cons_zero, List.set_cons_succ])
    refine bxh_take (i := 7) (v := ?_) rfl (by kernel_rfl) (by kernel_rfl) (by kernel_rfl) (fun _ _ _ h => h) (Or.inl ⟨by kernel_rfl, ?_⟩) (by assumption) ?_; rotate_left; (intro w hSw; obtain ⟨q0, q1, q2, q3, q4, q5⟩ := hSw; go_simp <;> with_reducible rfl); (simp only [Act.put, List.getElem_toArray, List.getElem_cons_zero, List.getElem_cons_succ, List.setIfInBounds_toArray, List.set_cons_zero, List.set_cons_succ])
    refine bxh_take (i := 8) (v := ?_) rfl (by kernel_rfl) (by kernel_rfl) (by kernel_rfl) (fun _ _ _ h => h) (Or.inl ⟨by kernel_rfl, ?_⟩) (by assumption) ?_; rotate_left; (intro w hSw; obtain ⟨q0, q1, q2, q3, q4, q5⟩ := hSw; go_simp <;> with_reducible rfl); (simp only [Act.put, List.getElem_toArray, List.getElem_cons_zero, List.getElem_cons_succ, List.setIfInBounds_toArray, List.set_cons_zero, List.set_cons_succ])
    obtain ⟨wa, rfl⟩ : ∃ wa : World, wa = w9 := ⟨_, rfl⟩
    have fz := blk_frozen hZ (i := 0)
    have cz := blk_cell hZ (i := 0) (v := .slice none 0 0) rfl
    refine bxh_next (i := 10) (by kernel_rfl) rfl (fun K hK => ?_)
    go_simp
    have VX := Lib.hid (owns_set VX.out hZ (by decide) (.slice ax 14 cx) 0)
    have hZ := blk_set hZ (i := 0) (.slice ax 14 cx)
    have hB := hB.setCell (p := ⟨bx, 0, none⟩) hbl (.slice ax 14 cx)
    generalize (World.setCell wa _ _) = ws at *
    refine hK.out _ _ (aw_cells (aw_call HA.out hB)) (fun hS => ?_)
    clear hK K
    refine bxh_take (i := 11) (v := ?_) rfl (by kernel_rfl) (by kernel_rfl) (by kernel_rfl) (fun _ _ _ h => h) (Or.inl ⟨by kernel_rfl, ?_⟩) (by assumption) ?_; rotate_left; (intro w hSw; obtain ⟨q0, q1, q2, q3, q4, q5⟩ := hSw; go_simp <;> with_reducible rfl); (simp only [Act.put, List.getElem_toArray, List.getElem_cons_zero, List.getElem_cons_succ, List.setIfInBounds_toArray, List.set_cons_zero, List.set_cons_succ])
    refine bxh_done (by kernel_rfl) ?_ _
    clear hS fz cz
    obtain ⟨c0, c1, c2, _, _, _⟩ := aw_cells (aw_call HA.out hB)
    have hzz := hB.size
    have y15 := blk_cell hZ (i := 0) (v := .slice ax 14 cx) rfl
    go_wp2_with fail
    refine (CI.out _ _ (aw_call HA.out hB) (sl_of_owns VX.out)).mono ?_
    rintro e w10 ⟨ay, cy, rfl, hv, hb⟩
    obtain ⟨wb, hwb⟩ : ∃ wb, w10.alloc (memBox ay 14 cy) = wb := ⟨_, rfl⟩
    have hbb : Below ws.heap.size ws wb := by rw [← hwb]; exact hb.alloc hb.size _
    obtain ⟨bY, hbY⟩ : ∃ bY, w10.heap.size = bY := ⟨_, rfl⟩
    have hY : wb.heap[bY]? = some (memBox ay 14 cy) := by rw [← hwb, ← hbY]; exact World.alloc_heap_new _ _
    have VY := Lib.hid (show wb.ownsRow 0 68 2 (.slice ay 14 cy) 14 (cls awY) from by rw [← hwb]; exact hv.alloc _)
    have VX := Lib.hid (owns_below VX.out hbb)
    have hZ := (hbb.block _ (Array.getElem?_eq_some_iff.1 hZ).1).trans hZ
    have hB := hB.trans (hbb.mono hB.size)
    clear hb hv hbb c0 c1 c2
    obtain ⟨c0, c1, c2, _, _, _⟩ := aw_cells (aw_call HA.out hB)
    have hzz := hB.size
    go_wp2_with fail
    have CPl := wPlace 1 1 1 12 wb (HO.out.below (aw_call HA.out hB).1.1) (by omega) (by omega)
    rw [aw_p12] at CPl
    refine CPl.mono ?_
    rintro e w11 ⟨he, hb⟩
    rw [show plc false 12 = .tuple #[.int .i64 0, .bool false] from rfl] at he
    subst he
    have VY := Lib.hid (owns_below VY.out hb)
    have VX := Lib.hid (owns_below VX.out hb)
    have hZ := (hb.block _ (Array.getElem?_eq_some_iff.1 hZ).1).trans hZ
    have hY := (hb.block _ (Array.getElem?_eq_some_iff.1 hY).1).trans hY
    have hB := hB.trans (hb.mono hB.size)
    clear CPl hb c0 c1 c2
    obtain ⟨c0, c1, c2, _, _, _⟩ := aw_cells (aw_call HA.out hB)
    have hzz := hB.size
    have y15 := blk_cell hZ (i := 0) (v := .slice ax 14 cx) rfl
    have y17 := blk_cell hY (i := 0) (v := .slice ay 14 cy) rfl
    go_wp2_with fail
    have D1 := blk_alloc w11 (.cells (u64s [1, 13, 5, 0, 0, 0, 0]).toArray 28)
    have CWo := words (.slice a5 7 c5) (.slice (some ⟨w11.heap.size, 0, none⟩) 7 7) [1, 13, 5, 0, 0, 0, 0] [1, 13, 5, 0, 0, 0, 0] _ ((aw_call HA.out hB).2.2.1.below D1) (sl_new (World.alloc_heap_new w11 _)) (by simp)
    rw [show decide (([1, 13, 5, 0, 0, 0, 0] : List Int) = [1, 13, 5, 0, 0, 0, 0]) = true from rfl] at CWo
    refine CWo.mono ?_
    rintro e w12 ⟨rfl, hb'⟩
    have hb := D1.trans (hb'.mono (by simp))
    have VY := Lib.hid (owns_below VY.out hb)
    have VX := Lib.hid (owns_below VX.out hb)
    have hZ := (hb.block _ (Array.getElem?_eq_some_iff.1 hZ).1).trans hZ
    have hY := (hb.block _ (Array.getElem?_eq_some_iff.1 hY).1).trans hY
    have hB := hB.trans (hb.mono hB.size)
    clear CWo hb hb' D1 c0 c1 c2 y15 y17
    obtain ⟨c0, c1, c2, _, _, _⟩ := aw_cells (aw_call HA.out hB)
    have hzz := hB.size
    have y15 := blk_cell hZ (i := 0) (v := .slice ax 14 cx) rfl
    have y17 := blk_cell hY (i := 0) (v := .slice ay 14 cy) rfl
    go_wp2_with fail
    have D1 := blk_alloc w12 (.cells #[.int .i64 13, .int .u64 5] 71)
    have CWr := writes (.slice a7 1 c7) (.slice (some ⟨w12.heap.size, 0, none⟩) 1 1) [(13, 5)] [(13, 5)] _ ((aw_call HA.out hB).2.2.2.1.below D1) (sl_new (World.alloc_heap_new w12 _)) (by simp)
    rw [show decide (([(13, 5)] : List (Int × Int)) = [(13, 5)]) = true from rfl] at CWr
    refine CWr.mono ?_
    rintro e w13 ⟨rfl, hb'⟩
    have hb := D1.trans (hb'.mono (by simp))
    have VY := Lib.hid (owns_below VY.out hb)
    have VX := Lib.hid (owns_below VX.out hb)
    have hZ := (hb.block _ (Array.getElem?_eq_some_iff.1 hZ).1).trans hZ
    have hY := (hb.block _ (Array.getElem?_eq_some_iff.1 hY).1).trans hY
    have hB := hB.trans (hb.mono hB.size)
    clear CWr hb hb' D1 c0 c1 c2 y15 y17
    obtain ⟨gx, cx', hvx, _, hgx⟩ := World.ownsRow.form VX.out (by omega)
    cases hvx
    obtain ⟨gy, cy', hvy, _, hgy⟩ := World.ownsRow.form VY.out (by omega)
    cases hvy
    have x13 : w13.cell? ⟨gx, 26, none⟩ = some (.int .u64 5) := by have := VX.out.cells (g := gx) rfl 26 (.int .u64 5) rfl; rwa [add_at] at this
    have x6 : w13.cell? ⟨gx, 12, none⟩ = some (.int .u64 1) := by have := VX.out.cells (g := gx) rfl 12 (.int .u64 1) rfl; rwa [add_at] at this
    have z13 : w13.cell? ⟨gy, 26, none⟩ = some (.int .u64 5) := by have := VY.out.cells (g := gy) rfl 26 (.int .u64 5) rfl; rwa [add_at] at this
    have z6 : w13.cell? ⟨gy, 12, none⟩ = some (.int .u64 0) := by have := VY.out.cells (g := gy) rfl 12 (.int .u64 0) rfl; rwa [add_at] at this
    have y15 := blk_cell hZ (i := 0) (v := .slice (some ⟨gx, 0, none⟩) 14 cx) rfl
    have y17 := blk_cell hY (i := 0) (v := .slice (some ⟨gy, 0, none⟩) 14 cy) rfl
    have HBf := Lib.hid (aw_call HA.out hB).1.1
    go_wp2
    go_ret
    exact ⟨rfl, HBf.out⟩

end Go.Proofs.YthigfjelgbdcfaaDoor
