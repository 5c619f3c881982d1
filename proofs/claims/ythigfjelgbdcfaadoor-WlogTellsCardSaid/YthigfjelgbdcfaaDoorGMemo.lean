/- The contracts of the law's Conf, Memory and Writes, whatever the input. -/
import Derived.Test.YthigfjelgbdcfaaDoorGPickB

set_option linter.unusedSimpArgs false
set_option linter.unusedVariables false

/-! The law's Memory. -/
namespace Go.Proofs.YthigfjelgbdcfaaDoor
open Go.RowKit Go.Maps

def I64 (x : Int) : Prop := -9223372036854775808 ≤ x ∧ x ≤ 9223372036854775807
/-- a slice of n rows of s numbers -/
def SlI (s : Nat) (w : World) (v : Value) (n : Nat) : Prop :=
  ∃ (a : Option Addr) (cap : Nat), v = .slice a n cap ∧ (0 < n → ∃ b o, a = some ⟨b, o, none⟩ ∧ b < w.heap.size ∧ ∀ j, j < n * s → ∃ x, w.cell? ⟨b, o + j, none⟩ = some (.int .i64 x) ∧ I64 x)
/-- the boxes of the configuration and of the result -/
def Mo (w W : World) (k p c : Int) : Prop := One w W k p c ∧ W.heap[w.heap.size + 1]? = some (memBox none 0 0)
theorem mo_start (w : World) (k p c : Int) : Mo w ((w.alloc (.cells #[.int .i64 k, .int .i64 p, .int .i64 c] 24)).alloc (memBox none 0 0)) k p c := ⟨one_call (one_start w k p c) (blk_alloc _ _), alloc_at _ _ (by simp)⟩
theorem mo_call {w W W' : World} {k p c : Int} (h : Mo w W k p c) (hb : Below W.heap.size W W') : Mo w W' k p c :=
  ⟨one_call h.1 hb, (hb.block _ (Array.getElem?_eq_some_iff.1 h.2).1).trans h.2⟩
theorem mo_set {w W : World} {k p c : Int} {g i : Nat} (h : Mo w W k p c) (hg : w.heap.size + 1 < g) (v : Value) : Mo w (W.setCell ⟨g, i, none⟩ v) k p c :=
  ⟨one_set h.1 (by omega) v, blk_far h.2 (by omega) v⟩
theorem mo_cells {w W : World} {k p c : Int} (h : Mo w W k p c) : W.cell? ⟨w.heap.size, 0, none⟩ = some (.int .i64 k) ∧ W.cell? ⟨w.heap.size, 1, none⟩ = some (.int .i64 p) ∧ W.cell? ⟨w.heap.size, 2, none⟩ = some (.int .i64 c) ∧ w.heap.size + 1 < W.heap.size :=
  ⟨blk_cell h.1.2 rfl, blk_cell h.1.2 rfl, blk_cell h.1.2 rfl, (Array.getElem?_eq_some_iff.1 h.2).1⟩

/-- some memory of N cells -/
def SomeMem (w : World) (N : Nat) (e : Ending) (w' : World) : Prop := (∃ v ms, e = .returned (.agg #[v]) ∧ ms.length = N ∧ MemOk ms ∧ w'.ownsRow w.heap.size 68 2 v N (cls ms)) ∧ Below w.heap.size w w'
def SomeRow (W : World) (base g cp N : Nat) : Prop := ∃ ms : List (Int × Int), ms.length = N ∧ MemOk ms ∧ W.ownsRow base 68 2 (.slice (some ⟨g, 0, none⟩) N cp) N (cls ms)
theorem memOk_set {ms : List (Int × Int)} (h : MemOk ms) (j : Nat) {x : Int × Int} (hx : 0 ≤ x.1 ∧ x.1 ≤ 18446744073709551615) : MemOk (ms.set j x) := by
  intro y hy
  rcases List.mem_or_eq_of_mem_set hy with h1 | h1
  · exact h y h1
  · rw [h1]; exact hx
theorem someRow_put {W : World} {base g cp N : Nat} (h : SomeRow W base g cp N) {i : Nat} (hi : i < N) {x y : Int} (hx : 0 ≤ x ∧ x ≤ 18446744073709551615) : SomeRow ((W.setCell ⟨g, i * 2, none⟩ (.int .u64 x)).setCell ⟨g, i * 2 + 1, none⟩ (.int .i64 y)) base g cp N := by
  obtain ⟨ms, h1, h2, h3⟩ := h
  refine ⟨ms.set i (x, y), by simpa using h1, memOk_set h2 i hx, ?_⟩
  rw [cls_set, Nat.mul_comm 2 i]
  exact owns_put (owns_put h3 (by omega)) (by omega)
theorem someRow_below {W W' : World} {base g cp N : Nat} (h : SomeRow W base g cp N) (hb : Below W.heap.size W W') : SomeRow W' base g cp N := by
  obtain ⟨ms, h1, h2, h3⟩ := h
  exact ⟨ms, h1, h2, owns_below h3 hb⟩
theorem memOk_zero (N : Nat) : MemOk (List.replicate N (0, 0)) := fun x hx => by rw [List.eq_of_mem_replicate hx]; simp

set_option linter.unusedSimpArgs false in
set_option maxRecDepth 100000 in
set_option maxHeartbeats 8000000 in
theorem lMemory (k p c : Int) (N M : Nat) (rv : Value) (w : World) (h : Fit k p c) (hp4 : p ≤ 4) (hN : (N : Int) = sizeN k p c) (hr : SlI 3 w rv M) :
    Calls Tryd.prog 10 #[conf k p c, rv] w (SomeMem w N) := by
  obtain ⟨ra, rc, rfl, hr⟩ := hr
  have HR := Lib.hid hr
  have hNb : N ≤ 40000 := by have := sizeN_bd k p c; omega
  have hN1 : 1 ≤ N := by have h1 := sizeN_yes h; have h2 := homeF_bd h; have h3 := mul_bd (a := p) (b := 5 + (1 + 2 * (homeF k c + 2 * p))) (A := 16) (B := 2122) (by unfold Fit at h; omega) (by unfold Fit at h; omega) (by unfold Fit at h; omega) (by unfold Fit at h; omega); omega
  have CS : Hid (∀ w1, Calls Tryd.prog 29 #[conf k p c] w1 fun e w' => e = .returned (.int .i64 (N : Int)) ∧ Below w1.heap.size w1 w') := Lib.hid (fun w1 => hN ▸ fSize k p c w1)
  have CN : Hid (∀ w1, Calls Tryd.prog 30 #[.int .i64 (N : Int)] w1 fun e w' => (∃ v, e = .returned (.tuple #[.agg #[v], .int .i64 0]) ∧ w'.ownsRow w1.heap.size 68 2 v N (cls (List.replicate N (0, 0)))) ∧ Below w1.heap.size w1 w') := Lib.hid (fun w1 => fNew N w1 hNb)
  have hp1 : 1 ≤ p := by unfold Fit at h; omega
  clear h hr hN
  obtain ⟨s, hs0, hs1⟩ : ∃ s : Int, 0 < s ∧ ∀ w : World, (binOp BinOp.shl 3 (.int .i64 1) (.int .i64 p)).run Tryd.prog w = .ok (.int .i64 s) w := by
    obtain hp | hp | hp | hp : p = 1 ∨ p = 2 ∨ p = 3 ∨ p = 4 := by omega
    · subst hp; exact ⟨2, by omega, fun w => by kernel_rfl⟩
    · subst hp; exact ⟨4, by omega, fun w => by kernel_rfl⟩
    · subst hp; exact ⟨8, by omega, fun w => by kernel_rfl⟩
    · subst hp; exact ⟨16, by omega, fun w => by kernel_rfl⟩
  have HSH := Lib.hid hs1
  clear hs1
  go_enter Tryd.func10, Tryd.ntmps10
  go_wp2_with (first | (go_at_call 29; refine (CS.out _).mono ?_; rintro e wo ⟨rfl, hbo⟩; have T2 := Lib.hid (mo_call (mo_start w k p c) hbo); obtain ⟨c0, c1, c2, hzo⟩ := mo_cells T2.out; clear hbo) | (go_at_call 30; refine (CN.out _).mono ?_; rintro e wn ⟨⟨v, rfl, hv⟩, hbn⟩; obtain ⟨g, cp, rfl, hgb, hgl⟩ := World.ownsRow.form hv (by omega); have T3 := Lib.hid (mo_call T2.out hbn); have HV := Lib.hid hv; clear hbn hv))
  have HB2 := Lib.hid (World.alloc_heap_new wn (memBox (some ⟨g, 0, none⟩) N cp))
  have T4 := Lib.hid (mo_call T3.out (blk_alloc wn (memBox (some ⟨g, 0, none⟩) N cp)))
  have HV4 : Hid (SomeRow (wn.alloc (memBox (some ⟨g, 0, none⟩) N cp)) (w.heap.size + 1 + 1) g cp N) := Lib.hid ⟨_, by simp, memOk_zero N, owns_base (HV.out.alloc (memBox (some ⟨g, 0, none⟩) N cp)) (by omega)⟩
  have hg2 : w.heap.size + 1 < g := by omega
  obtain ⟨g9, hg9⟩ : ∃ g9, wn.heap.size = g9 := ⟨_, rfl⟩
  have hgg : g < g9 := by omega
  rw [hg9] at HB2 ⊢
  clear HV T2 T3 c0 c1 c2
  go_loopw [7, 8] (fun i z wr => ∃ n : Nat, n ≤ M ∧ n ≤ 30 ∧ i = .int .i64 n ∧ Hid (wr.heap[g9]? = some (memBox (some ⟨g, 0, none⟩) N cp)) ∧ Hid (SomeRow wr (w.heap.size + 1 + 1) g cp N) ∧ Hid (Mo w wr k p c)) (fun i _ _ => 30 - (intOf i).toNat)
  case atStart => exact ⟨0, by omega, by omega, rfl, HB2, HV4, T4⟩
  case round =>
    obtain ⟨n, hnM, hn30, rfl, hbx, how, h1⟩ := hrel
    clear HB2 HV4 T4
    obtain ⟨c0, c1, c2, hz⟩ := mo_cells h1.out
    by_cases hM : n < M ∧ n < 30
    · obtain ⟨br, orr, rfl, hbr, k1⟩ := HR.out (by omega)
      obtain ⟨x0, hx0, ix0⟩ := k1 (n * 3) (by omega)
      obtain ⟨x1, hx1, ix1⟩ := k1 (n * 3 + 1) (by omega)
      obtain ⟨x2, hx2, ix2⟩ := k1 (n * 3 + 2) (by omega)
      have C0 := Lib.hid (fun w => pick_any x0 (N : Int) w ix0.1 ix0.2 (by omega))
      have C1 := Lib.hid (fun w => pick_any x1 20 w ix1.1 ix1.2 (by omega))
      have C2 := Lib.hid (fun w => pick_any x2 s w ix2.1 ix2.2 hs0)
      have B0 := pick_bd (c := x0) (n := (N : Int)) (by omega)
      have B1 := pick_bd (c := x1) (n := 20) (by omega)
      obtain ⟨y0, hy0⟩ : ∃ y, pickI x0 (N : Int) = y := ⟨_, rfl⟩
      obtain ⟨y1, hy1⟩ : ∃ y, pickI x1 20 = y := ⟨_, rfl⟩
      obtain ⟨y2, hy2⟩ : ∃ y, pickI x2 s = y := ⟨_, rfl⟩
      rw [hy0] at C0 B0
      rw [hy1] at C1 B1
      rw [hy2] at C2
      have KR := Lib.hid (show ∀ W, Below w.heap.size w W → W.cell? ⟨br, orr + n * 3, none⟩ = some (.int .i64 x0) ∧ W.cell? ⟨br, orr + n * 3 + 1, none⟩ = some (.int .i64 x1) ∧ W.cell? ⟨br, orr + n * 3 + 2, none⟩ = some (.int .i64 x2) from fun W hB => ⟨(hB.cell (p := ⟨br, orr + n * 3, none⟩) hbr).trans hx0, (hB.cell (p := ⟨br, orr + n * 3 + 1, none⟩) hbr).trans (by rw [Nat.add_assoc]; exact hx1), (hB.cell (p := ⟨br, orr + n * 3 + 2, none⟩) hbr).trans (by rw [Nat.add_assoc]; exact hx2)⟩)
      obtain ⟨hM1, hM2⟩ := hM
      have g1 : decide (n < M) = true := decide_eq_true hM1
      have l0 : (0 : Int) ≤ (n : Int) := by omega
      have l1 : (n : Int) < (M : Int) := by omega
      have u1 : IntKind.u64.wrap y1 = y1 := wu64 (by omega) (by omega)
      clear hy0 hy1 hy2 hx0 hx1 hx2 k1 ix0 ix1 ix2 hnM hn30 HR
      go_wp2
      obtain ⟨d0, d1, d2⟩ := KR.out wr h1.out.1.1
      refine bxh_start (S := fun W => W.cell? ⟨g9, 0, none⟩ = some (.slice (some ⟨g, 0, none⟩) N cp) ∧ W.cell? ⟨br, orr + n * 3, none⟩ = some (.int .i64 x0) ∧ W.cell? ⟨br, orr + n * 3 + 1, none⟩ = some (.int .i64 x1) ∧ W.cell? ⟨br, orr + n * 3 + 2, none⟩ = some (.int .i64 x2) ∧ W.cell? ⟨w.heap.size, 1, none⟩ = some (.int .i64 p) ∧ True) (by kernel_rfl) ?_
      have hS : (fun W : World => W.cell? ⟨g9, 0, none⟩ = some (.slice (some ⟨g, 0, none⟩) N cp) ∧ W.cell? ⟨br, orr + n * 3, none⟩ = some (.int .i64 x0) ∧ W.cell? ⟨br, orr + n * 3 + 1, none⟩ = some (.int .i64 x1) ∧ W.cell? ⟨br, orr + n * 3 + 2, none⟩ = some (.int .i64 x2) ∧ W.cell? ⟨w.heap.size, 1, none⟩ = some (.int .i64 p) ∧ True) wr.drew := ⟨blk_cell hbx.out rfl, d0, d1, d2, c1, trivial⟩
      have HS := Lib.hid hS
      refine bxh_take (i := 0) (v := ?_) rfl (by kernel_rfl) (by kernel_rfl) (by kernel_rfl) (fun _ _ _ h => h) (Or.inl ⟨by kernel_rfl, ?_⟩) (by assumption) ?_; rotate_left; (intro w hSw; obtain ⟨q0, q1, q2, q3, q4, q5⟩ := hSw; go_simp <;> with_reducible rfl); (simp only [Act.put, List.getElem_toArray, List.getElem_cons_zero, List.getElem_cons_succ, List.setIfInBounds_toArray, List.set_cons_zero, List.set_cons_succ])
      refine bxh_take (i := 1) (v := ?_) rfl (by kernel_rfl) (by kernel_rfl) (by kernel_rfl) (fun _ _ _ h => h) (Or.inl ⟨by kernel_rfl, ?_⟩) (by assumption) ?_; rotate_left; (intro w hSw; obtain ⟨q0, q1, q2, q3, q4, q5⟩ := hSw; go_simp <;> with_reducible rfl); (simp only [Act.put, List.getElem_toArray, List.getElem_cons_zero, List.getElem_cons_succ, List.setIfInBounds_toArray, List.set_cons_zero, List.set_cons_succ])
      refine bxh_take (i := 2) (v := ?_) rfl (by kernel_rfl) (by kernel_rfl) (by kernel_rfl) (fun _ _ _ h => h) (Or.inl ⟨by kernel_rfl, ?_⟩) (by assumption) ?_; rotate_left; (intro w hSw; obtain ⟨q0, q1, q2, q3, q4, q5⟩ := hSw; go_simp <;> with_reducible rfl); (simp only [Act.put, List.getElem_toArray, List.getElem_cons_zero, List.getElem_cons_succ, List.setIfInBounds_toArray, List.set_cons_zero, List.set_cons_succ])
      refine bxh_take (i := 3) (v := ?_) rfl (by kernel_rfl) (by kernel_rfl) (by kernel_rfl) (fun _ _ _ h => h) (Or.inl ⟨by kernel_rfl, ?_⟩) (by assumption) ?_; rotate_left; (intro w hSw; obtain ⟨q0, q1, q2, q3, q4, q5⟩ := hSw; go_simp <;> with_reducible rfl); (simp only [Act.put, List.getElem_toArray, List.getElem_cons_zero, List.getElem_cons_succ, List.setIfInBounds_toArray, List.set_cons_zero, List.set_cons_succ])
      refine bxh_take (i := 4) (v := ?_) rfl (by kernel_rfl) (by kernel_rfl) (by kernel_rfl) (fun _ _ _ h => h) (Or.inl ⟨by kernel_rfl, ?_⟩) (by assumption) ?_; rotate_left; (intro w hSw; obtain ⟨q0, q1, q2, q3, q4, q5⟩ := hSw; go_simp <;> with_reducible rfl); (simp only [Act.put, List.getElem_toArray, List.getElem_cons_zero, List.getElem_cons_succ, List.setIfInBounds_toArray, List.set_cons_zero, List.set_cons_succ])
      refine bxh_take (i := 5) (v := ?_) rfl (by kernel_rfl) (by kernel_rfl) (by kernel_rfl) (fun _ _ _ h => h) (Or.inl ⟨by kernel_rfl, ?_⟩) (by assumption) ?_; rotate_left; (intro w hSw; obtain ⟨q0, q1, q2, q3, q4, q5⟩ := hSw; go_simp <;> with_reducible rfl); (simp only [Act.put, List.getElem_toArray, List.getElem_cons_zero, List.getElem_cons_succ, List.setIfInBounds_toArray, List.set_cons_zero, List.set_cons_succ])
      refine bxh_take (i := 6) (v := ?_) rfl (by kernel_rfl) (by kernel_rfl) (by kernel_rfl) (fun _ _ _ h => h) (Or.inl ⟨by kernel_rfl, ?_⟩) (by assumption) ?_; rotate_left; (intro w hSw; obtain ⟨q0, q1, q2, q3, q4, q5⟩ := hSw; go_simp <;> with_reducible rfl); (simp only [Act.put, List.getElem_toArray, List.getElem_cons_zero, List.getElem_cons_succ, List.setIfInBounds_toArray, List.set_cons_zero, List.set_cons_succ])
      refine bxh_take (i := 7) (v := ?_) rfl (by kernel_rfl) (by kernel_rfl) (by kernel_rfl) (fun _ _ _ h => h) (Or.inl ⟨by kernel_rfl, ?_⟩) (by assumption) ?_; rotate_left; (intro w hSw; obtain ⟨q0, q1, q2, q3, q4, q5⟩ := hSw; go_simp <;> with_reducible rfl); (simp only [Act.put, List.getElem_toArray, List.getElem_cons_zero, List.getElem_cons_succ, List.setIfInBounds_toArray, List.set_cons_zero, List.set_cons_succ])
      refine bxh_next (i := 8) (by kernel_rfl) rfl (fun K hK => ?_)
      go_simp
      refine (C0.out _).mono ?_
      rintro e w' ⟨rfl, rfl⟩
      refine hK.out _ _ HS.out (fun hS => ?_)
      clear hK
      refine bxh_take (i := 9) (v := ?_) rfl (by kernel_rfl) (by kernel_rfl) (by kernel_rfl) (fun _ _ _ h => h) (Or.inl ⟨by kernel_rfl, ?_⟩) (by assumption) ?_; rotate_left; (intro w hSw; obtain ⟨q0, q1, q2, q3, q4, q5⟩ := hSw; go_simp <;> with_reducible rfl); (simp only [Act.put, List.getElem_toArray, List.getElem_cons_zero, List.getElem_cons_succ, List.setIfInBounds_toArray, List.set_cons_zero, List.set_cons_succ])
      refine bxh_done (by kernel_rfl) ?_ _
      go_wp2
      have g2 : (0 : Int) ≤ y0 := B0.1
      have g3 : y0 < (N : Int) := B0.2
      refine bxh_start (S := fun W => W.cell? ⟨g9, 0, none⟩ = some (.slice (some ⟨g, 0, none⟩) N cp) ∧ W.cell? ⟨br, orr + n * 3, none⟩ = some (.int .i64 x0) ∧ W.cell? ⟨br, orr + n * 3 + 1, none⟩ = some (.int .i64 x1) ∧ W.cell? ⟨br, orr + n * 3 + 2, none⟩ = some (.int .i64 x2) ∧ W.cell? ⟨w.heap.size, 1, none⟩ = some (.int .i64 p) ∧ True) (by kernel_rfl) ?_
      have hS : (fun W : World => W.cell? ⟨g9, 0, none⟩ = some (.slice (some ⟨g, 0, none⟩) N cp) ∧ W.cell? ⟨br, orr + n * 3, none⟩ = some (.int .i64 x0) ∧ W.cell? ⟨br, orr + n * 3 + 1, none⟩ = some (.int .i64 x1) ∧ W.cell? ⟨br, orr + n * 3 + 2, none⟩ = some (.int .i64 x2) ∧ W.cell? ⟨w.heap.size, 1, none⟩ = some (.int .i64 p) ∧ True) wr.drew.drew := ⟨blk_cell hbx.out rfl, d0, d1, d2, c1, trivial⟩
      have HS := Lib.hid hS
      refine bxh_take (i := 0) (v := ?_) rfl (by kernel_rfl) (by kernel_rfl) (by kernel_rfl) (fun _ _ _ h => h) (Or.inl ⟨by kernel_rfl, ?_⟩) (by assumption) ?_; rotate_left; (intro w hSw; obtain ⟨q0, q1, q2, q3, q4, q5⟩ := hSw; go_simp <;> with_reducible rfl); (simp only [Act.put, List.getElem_toArray, List.getElem_cons_zero, List.getElem_cons_succ, List.setIfInBounds_toArray, List.set_cons_zero, List.set_cons_succ])
      refine bxh_take (i := 1) (v := ?_) rfl (by kernel_rfl) (by kernel_rfl) (by kernel_rfl) (fun _ _ _ h => h) (Or.inl ⟨by kernel_rfl, ?_⟩) (by assumption) ?_; rotate_left; (intro w hSw; obtain ⟨q0, q1, q2, q3, q4, q5⟩ := hSw; go_simp <;> with_reducible rfl); (simp only [Act.put, List.getElem_toArray, List.getElem_cons_zero, List.getElem_cons_succ, List.setIfInBounds_toArray, List.set_cons_zero, List.set_cons_succ])
      refine bxh_take (i := 2) (v := ?_) rfl (by kernel_rfl) (by kernel_rfl) (by kernel_rfl) (fun _ _ _ h => h) (Or.inl ⟨by kernel_rfl, ?_⟩) (by assumption) ?_; rotate_left; (intro w hSw; obtain ⟨q0, q1, q2, q3, q4, q5⟩ := hSw; go_simp <;> with_reducible rfl); (simp only [Act.put, List.getElem_toArray, List.getElem_cons_zero, List.getElem_cons_succ, List.setIfInBounds_toArray, List.set_cons_zero, List.set_cons_succ])
      refine bxh_take (i := 3) (v := ?_) rfl (by kernel_rfl) (by kernel_rfl) (by kernel_rfl) (fun _ _ _ h => h) (Or.inl ⟨by kernel_rfl, ?_⟩) (by assumption) ?_; rotate_left; (intro w hSw; obtain ⟨q0, q1, q2, q3, q4, q5⟩ := hSw; go_simp <;> with_reducible rfl); (simp only [Act.put, List.getElem_toArray, List.getElem_cons_zero, List.getElem_cons_succ, List.setIfInBounds_toArray, List.set_cons_zero, List.set_cons_succ])
      refine bxh_take (i := 4) (v := ?_) rfl (by kernel_rfl) (by kernel_rfl) (by kernel_rfl) (fun _ _ _ h => h) (Or.inl ⟨by kernel_rfl, ?_⟩) (by assumption) ?_; rotate_left; (intro w hSw; obtain ⟨q0, q1, q2, q3, q4, q5⟩ := hSw; go_simp <;> with_reducible rfl); (simp only [Act.put, List.getElem_toArray, List.getElem_cons_zero, List.getElem_cons_succ, List.setIfInBounds_toArray, List.set_cons_zero, List.set_cons_succ])
      refine bxh_take (i := 5) (v := ?_) rfl (by kernel_rfl) (by kernel_rfl) (by kernel_rfl) (fun _ _ _ h => h) (Or.inl ⟨by kernel_rfl, ?_⟩) (by assumption) ?_; rotate_left; (intro w hSw; obtain ⟨q0, q1, q2, q3, q4, q5⟩ := hSw; go_simp <;> with_reducible rfl); (simp only [Act.put, List.getElem_toArray, List.getElem_cons_zero, List.getElem_cons_succ, List.setIfInBounds_toArray, List.set_cons_zero, List.set_cons_succ])
      refine bxh_take (i := 6) (v := ?_) rfl (by kernel_rfl) (by kernel_rfl) (by kernel_rfl) (fun _ _ _ h => h) (Or.inl ⟨by kernel_rfl, ?_⟩) (by assumption) ?_; rotate_left; (intro w hSw; obtain ⟨q0, q1, q2, q3, q4, q5⟩ := hSw; go_simp <;> with_reducible rfl); (simp only [Act.put, List.getElem_toArray, List.getElem_cons_zero, List.getElem_cons_succ, List.setIfInBounds_toArray, List.set_cons_zero, List.set_cons_succ])
      refine bxh_take (i := 7) (v := ?_) rfl (by kernel_rfl) (by kernel_rfl) (by kernel_rfl) (fun _ _ _ h => h) (Or.inl ⟨by kernel_rfl, ?_⟩) (by assumption) ?_; rotate_left; (intro w hSw; obtain ⟨q0, q1, q2, q3, q4, q5⟩ := hSw; go_simp <;> with_reducible rfl); (simp only [Act.put, List.getElem_toArray, List.getElem_cons_zero, List.getElem_cons_succ, List.setIfInBounds_toArray, List.set_cons_zero, List.set_cons_succ])
      refine bxh_take (i := 10) (v := ?_) rfl (by kernel_rfl) (by kernel_rfl) (by kernel_rfl) (fun _ _ _ h => h) (Or.inl ⟨by kernel_rfl, ?_⟩) (by assumption) ?_; rotate_left; (intro w hSw; obtain ⟨q0, q1, q2, q3, q4, q5⟩ := hSw; go_simp <;> with_reducible rfl); (simp only [Act.put, List.getElem_toArray, List.getElem_cons_zero, List.getElem_cons_succ, List.setIfInBounds_toArray, List.set_cons_zero, List.set_cons_succ])
      refine bxh_take (i := 11) (v := ?_) rfl (by kernel_rfl) (by kernel_rfl) (by kernel_rfl) (fun _ _ _ h => h) (Or.inl ⟨by kernel_rfl, ?_⟩) (by assumption) ?_; rotate_left; (intro w hSw; obtain ⟨q0, q1, q2, q3, q4, q5⟩ := hSw; go_simp <;> with_reducible rfl); (simp only [Act.put, List.getElem_toArray, List.getElem_cons_zero, List.getElem_cons_succ, List.setIfInBounds_toArray, List.set_cons_zero, List.set_cons_succ])
      refine bxh_take (i := 12) (v := ?_) rfl (by kernel_rfl) (by kernel_rfl) (by kernel_rfl) (fun _ _ _ h => h) (Or.inl ⟨by kernel_rfl, ?_⟩) (by assumption) ?_; rotate_left; (intro w hSw; obtain ⟨q0, q1, q2, q3, q4, q5⟩ := hSw; go_simp <;> with_reducible rfl); (simp only [Act.put, List.getElem_toArray, List.getElem_cons_zero, List.getElem_cons_succ, List.setIfInBounds_toArray, List.set_cons_zero, List.set_cons_succ])
      refine bxh_take (i := 13) (v := ?_) rfl (by kernel_rfl) (by kernel_rfl) (by kernel_rfl) (fun _ _ _ h => h) (Or.inl ⟨by kernel_rfl, ?_⟩) (by assumption) ?_; rotate_left; (intro w hSw; obtain ⟨q0, q1, q2, q3, q4, q5⟩ := hSw; go_simp <;> with_reducible rfl); (simp only [Act.put, List.getElem_toArray, List.getElem_cons_zero, List.getElem_cons_succ, List.setIfInBounds_toArray, List.set_cons_zero, List.set_cons_succ])
      refine bxh_take (i := 14) (v := ?_) rfl (by kernel_rfl) (by kernel_rfl) (by kernel_rfl) (fun _ _ _ h => h) (Or.inl ⟨by kernel_rfl, ?_⟩) (by assumption) ?_; rotate_left; (intro w hSw; obtain ⟨q0, q1, q2, q3, q4, q5⟩ := hSw; go_simp <;> with_reducible rfl); (simp only [Act.put, List.getElem_toArray, List.getElem_cons_zero, List.getElem_cons_succ, List.setIfInBounds_toArray, List.set_cons_zero, List.set_cons_succ])
      refine bxh_take (i := 15) (v := ?_) rfl (by kernel_rfl) (by kernel_rfl) (by kernel_rfl) (fun _ _ _ h => h) (Or.inl ⟨by kernel_rfl, ?_⟩) (by assumption) ?_; rotate_left; (intro w hSw; obtain ⟨q0, q1, q2, q3, q4, q5⟩ := hSw; go_simp <;> with_reducible rfl); (simp only [Act.put, List.getElem_toArray, List.getElem_cons_zero, List.getElem_cons_succ, List.setIfInBounds_toArray, List.set_cons_zero, List.set_cons_succ])
      refine bxh_take (i := 16) (v := ?_) rfl (by kernel_rfl) (by kernel_rfl) (by kernel_rfl) (fun _ _ _ h => h) (Or.inl ⟨by kernel_rfl, ?_⟩) (by assumption) ?_; rotate_left; (intro w hSw; obtain ⟨q0, q1, q2, q3, q4, q5⟩ := hSw; go_simp <;> with_reducible rfl); (simp only [Act.put, List.getElem_toArray, List.getElem_cons_zero, List.getElem_cons_succ, List.setIfInBounds_toArray, List.set_cons_zero, List.set_cons_succ])
      refine bxh_take (i := 17) (v := .int .i64 s) rfl (by kernel_rfl) (by kernel_rfl) (by kernel_rfl) (fun _ _ _ h => h) (Or.inl ⟨by kernel_rfl, fun w _ => exec_binOp rfl rfl rfl (by kernel_rfl) (HSH.out w)⟩) (by assumption) ?_
      simp only [Act.put, List.getElem_toArray, List.getElem_cons_zero, List.getElem_cons_succ, List.setIfInBounds_toArray, List.set_cons_zero, List.set_cons_succ]
      refine bxh_next (i := 8) (by kernel_rfl) rfl (fun K hK => ?_)
      go_simp
      refine (C1.out _).mono ?_
      rintro e w' ⟨rfl, rfl⟩
      refine hK.out _ _ HS.out (fun hS => ?_)
      clear hK
      refine bxh_take (i := 9) (v := ?_) rfl (by kernel_rfl) (by kernel_rfl) (by kernel_rfl) (fun _ _ _ h => h) (Or.inl ⟨by kernel_rfl, ?_⟩) (by assumption) ?_; rotate_left; (intro w hSw; obtain ⟨q0, q1, q2, q3, q4, q5⟩ := hSw; go_simp <;> with_reducible rfl); (simp only [Act.put, List.getElem_toArray, List.getElem_cons_zero, List.getElem_cons_succ, List.setIfInBounds_toArray, List.set_cons_zero, List.set_cons_succ])
      refine bxh_next (i := 18) (by kernel_rfl) rfl (fun K hK => ?_)
      go_simp
      refine (C2.out _).mono ?_
      rintro e w' ⟨rfl, rfl⟩
      refine hK.out _ _ HS.out (fun hS => ?_)
      clear hK
      refine bxh_take (i := 19) (v := ?_) rfl (by kernel_rfl) (by kernel_rfl) (by kernel_rfl) (fun _ _ _ h => h) (Or.inl ⟨by kernel_rfl, ?_⟩) (by assumption) ?_; rotate_left; (intro w hSw; obtain ⟨q0, q1, q2, q3, q4, q5⟩ := hSw; go_simp <;> with_reducible rfl); (simp only [Act.put, List.getElem_toArray, List.getElem_cons_zero, List.getElem_cons_succ, List.setIfInBounds_toArray, List.set_cons_zero, List.set_cons_succ])
      refine bxh_take (i := 20) (v := ?_) rfl (by kernel_rfl) (by kernel_rfl) (by kernel_rfl) (fun _ _ _ h => h) (Or.inl ⟨by kernel_rfl, ?_⟩) (by assumption) ?_; rotate_left; (intro w hSw; obtain ⟨q0, q1, q2, q3, q4, q5⟩ := hSw; go_simp <;> with_reducible rfl); (simp only [Act.put, List.getElem_toArray, List.getElem_cons_zero, List.getElem_cons_succ, List.setIfInBounds_toArray, List.set_cons_zero, List.set_cons_succ])
      obtain ⟨ms, m1, m2, m3⟩ := how.out
      obtain ⟨⟨v1, o1⟩, p1, _, hgw⟩ := owns_cell (j := y0.toNat * 2) m3 (by omega)
      obtain ⟨⟨v2, o2⟩, p2, _, _⟩ := owns_cell (j := y0.toNat * 2 + 1) m3 (by omega)
      clear m1 m2 m3
      refine bxh_next (i := 21) (by kernel_rfl) rfl (fun K hK => ?_)
      go_simp
      have e1 := blk_far (b' := g) (i := y0.toNat * 2 + 1) (blk_far (b' := g) (i := y0.toNat * 2) hbx.out (by omega) (.int .u64 y1)) (by omega) (.int .i64 y2)
      have e2 := someRow_put how.out (i := y0.toNat) (by omega) (x := y1) (y := y2) (by omega)
      have e3 := mo_set (g := g) (i := y0.toNat * 2 + 1) (mo_set (g := g) (i := y0.toNat * 2) h1.out hg2 (.int .u64 y1)) hg2 (.int .i64 y2)
      obtain ⟨d0, d1, d2⟩ := KR.out _ e3.1.1
      have c1 := (mo_cells e3).2.1
      refine hK.out _ _ ⟨blk_cell e1 rfl, d0, d1, d2, c1, trivial⟩ (fun hS => ?_)
      have E1 := Lib.hid e1
      have E2 := Lib.hid (someRow_below (someRow_below e2 (Below.refl _ _).drew) (Below.refl _ _).drew)
      have E3 := Lib.hid (mo_call (mo_call e3 (Below.refl _ _).drew) (Below.refl _ _).drew)
      clear hK hS e1 e2 e3 d0 d1 d2
      refine bxh_done (by kernel_rfl) ?_ _
      go_wp2
      go_roundw
      case rel => exact ⟨n + 1, by omega, by omega, by go_num, E1, E2, E3⟩
      case measure => simp [intOf]; omega
    · have y9 := blk_cell hbx.out (i := 0) (v := .slice (some ⟨g, 0, none⟩) N cp) rfl
      have y2 := blk_cell h1.out.2 (i := 0) (v := .slice none 0 0) rfl
      have f2 := blk_frozen h1.out.2 (i := 0)
      have y3 := blk_cell (blk_set (i := 0) h1.out.2 (.slice (some ⟨g, 0, none⟩) N cp)) (i := 0) (v := .slice (some ⟨g, 0, none⟩) N cp) rfl
      have HY := Lib.hid y3
      clear y3
      by_cases hM1 : n < M
      · obtain rfl : n = 30 := by omega
        go_wp2
        have y3 := HY.out
        refine ⟨rfl, .agg #[.slice (some ⟨g, 0, none⟩) N cp], by simp [results, Tryd.f10, go_sem, y3], ?_⟩
        obtain ⟨ms, k1, k2, k3⟩ := how.out
        exact ⟨⟨_, ms, rfl, k1, k2, owns_base (owns_set k3 h1.out.2 (by decide) _ _) (by omega)⟩, h1.out.1.1.setCell (p := ⟨w.heap.size + 1, 0, none⟩) (by simp) _⟩
      · obtain rfl : n = M := by omega
        go_wp2
        have y3 := HY.out
        refine ⟨rfl, .agg #[.slice (some ⟨g, 0, none⟩) N cp], by simp [results, Tryd.f10, go_sem, y3], ?_⟩
        obtain ⟨ms, k1, k2, k3⟩ := how.out
        exact ⟨⟨_, ms, rfl, k1, k2, owns_base (owns_set k3 h1.out.2 (by decide) _ _) (by omega)⟩, h1.out.1.1.setCell (p := ⟨w.heap.size + 1, 0, none⟩) (by simp) _⟩

end Go.Proofs.YthigfjelgbdcfaaDoor

/-! The law's Writes. -/
namespace Go.Proofs.YthigfjelgbdcfaaDoor
open Go.RowKit Go.Maps

/-- writes of numbers and words -/
def WritesOk (l : List (Int × Int)) : Prop := ∀ x ∈ l, (0 ≤ x.1 ∧ x.1 ≤ 1000000) ∧ 0 ≤ x.2 ∧ x.2 ≤ 18446744073709551615
/-- some writes, at most n -/
def SomeWrites (w : World) (n : Nat) (e : Ending) (w' : World) : Prop := (∃ v l, e = .returned v ∧ l.length ≤ n ∧ WritesOk l ∧ w'.ownsRow w.heap.size 71 2 v l.length (wrs l)) ∧ Below w.heap.size w w'
def SomeW (W : World) (base : Nat) (v : Value) (n : Nat) : Prop := ∃ l : List (Int × Int), l.length ≤ n ∧ WritesOk l ∧ W.ownsRow base 71 2 v l.length (wrs l)

set_option linter.unusedSimpArgs false in
set_option maxRecDepth 100000 in
set_option maxHeartbeats 8000000 in
theorem lWrites (k p c : Int) (M : Nat) (rv : Value) (w : World) (h : Fit k p c) (hr : SlI 2 w rv M) (hMl : M ≤ 9223372036854775807) :
    Calls Tryd.prog 7 #[conf k p c, rv] w (SomeWrites w 14) := by
  obtain ⟨ra, rc, rfl, hr⟩ := hr
  have HR := Lib.hid hr
  have h' := h
  unfold Fit at h'
  obtain ⟨i0, hi, hz0, hz1, hz2⟩ := info_parts write_info
  have CA : Hid (∀ w1, Calls Tryd.prog 31 #[conf k p c, .int .i64 2, .int .i64 0] w1 fun e w' => e = .returned (.tuple #[.int .i64 (atN k p c 2 0), .int .i64 0]) ∧ Below w1.heap.size w1 w') := Lib.hid (fun w1 => fAt_ok k p c 2 0 w1 h (by omega) (by omega) (by omega) (by omega))
  have CB : Hid (∀ w1, Calls Tryd.prog 31 #[conf k p c, .int .i64 4, .int .i64 0] w1 fun e w' => e = .returned (.tuple #[.int .i64 (atN k p c 4 0), .int .i64 0]) ∧ Below w1.heap.size w1 w') := Lib.hid (fun w1 => fAt_ok k p c 4 0 w1 h (by omega) (by omega) (by omega) (by omega))
  have CH : Hid (∀ w1, Calls Tryd.prog 32 #[conf k p c] w1 fun e w' => e = .returned (.int .i64 (homeF k c)) ∧ Below w1.heap.size w1 w') := Lib.hid (fun w1 => homeN_yes h ▸ fHome k p c w1)
  have bA := at_bd h (i := 2) (q := 0) (by omega) (by omega) (by omega) (by omega)
  have bB := at_bd h (i := 4) (q := 0) (by omega) (by omega) (by omega) (by omega)
  have bH := homeF_bd h
  have bp : 1 ≤ p ∧ p ≤ 16 := by omega
  obtain ⟨A, hA⟩ : ∃ A, atN k p c 2 0 = A := ⟨_, rfl⟩
  obtain ⟨B, hB⟩ : ∃ B, atN k p c 4 0 = B := ⟨_, rfl⟩
  obtain ⟨H, hH⟩ : ∃ H, homeF k c = H := ⟨_, rfl⟩
  rw [hA] at CA bA
  rw [hB] at CB bB
  rw [hH] at CH bH
  clear h h' hr hA hB hH
  go_enter Tryd.func7, Tryd.ntmps7
  go_wp2_with (first | (go_at_call_of 31 (Value.int .i64 2); refine (CA.out _).mono ?_; rintro e w1 ⟨rfl, hb1⟩; have T1 := Lib.hid (one_call (one_start w k p c) hb1); obtain ⟨c0, c1, c2, hz⟩ := one_cells T1.out; clear hb1) | (go_at_call_of 31 (Value.int .i64 4); refine (CB.out _).mono ?_; rintro e w2 ⟨rfl, hb1⟩; have T2 := Lib.hid (one_call T1.out hb1); obtain ⟨c0, c1, c2, hz⟩ := one_cells T2.out; clear hb1) | (go_at_call 32; refine (CH.out _).mono ?_; rintro e w3 ⟨rfl, hb1⟩; have T3 := Lib.hid (one_call T2.out hb1); clear hb1))
  clear T1 T2
  go_loopw [10, 11, 12, 13, 14, 15] (fun ov i za zb zc zd wr => ∃ n : Nat, n ≤ M ∧ n ≤ 14 ∧ i = .int .i64 n ∧ Hid (SomeW wr (w.heap.size + 1) ov n) ∧ Hid (One w wr k p c)) (fun _ i _ _ _ _ _ => 14 - (intOf i).toNat)
  case atStart => exact ⟨0, by omega, by omega, rfl, Lib.hid ⟨[], by simp, by intro x hx; simp at hx, World.ownsRow_nil _ _ _ _⟩, T3⟩
  case round =>
    obtain ⟨n, hnM, hn14, rfl, how, h1⟩ := hrel
    clear T3 c0 c1 c2 hz
    obtain ⟨l, hll, k2, k3⟩ := how.out
    obtain ⟨av, cv, rfl⟩ := owns_slice k3
    have HK2 := Lib.hid k2
    have HK3 := Lib.hid k3
    clear how k2 k3
    obtain ⟨c0, c1, c2, hz⟩ := one_cells h1.out
    by_cases hM : n < M ∧ n < 14
    · obtain ⟨br, orr, rfl, hbr, k1⟩ := HR.out (by omega)
      obtain ⟨x0, hx0, ix0⟩ := k1 (n * 2) (by omega)
      obtain ⟨x1, hx1, ix1⟩ := k1 (n * 2 + 1) (by omega)
      have C0 := Lib.hid (fun w => pick_any x0 (2 * p + H) w ix0.1 ix0.2 (by omega))
      have C1 := Lib.hid (fun w => pick_any x1 20 w ix1.1 ix1.2 (by omega))
      have B0 := pick_bd (c := x0) (n := 2 * p + H) (by omega)
      have B1 := pick_bd (c := x1) (n := 20) (by omega)
      obtain ⟨y0, hy0⟩ : ∃ y, pickI x0 (2 * p + H) = y := ⟨_, rfl⟩
      obtain ⟨y1, hy1⟩ : ∃ y, pickI x1 20 = y := ⟨_, rfl⟩
      rw [hy0] at C0 B0
      rw [hy1] at C1 B1
      have KR := Lib.hid (show ∀ W, Below w.heap.size w W → W.cell? ⟨br, orr + n * 2, none⟩ = some (.int .i64 x0) ∧ W.cell? ⟨br, orr + n * 2 + 1, none⟩ = some (.int .i64 x1) from fun W hB => ⟨(hB.cell (p := ⟨br, orr + n * 2, none⟩) hbr).trans hx0, (hB.cell (p := ⟨br, orr + n * 2 + 1, none⟩) hbr).trans (by rw [Nat.add_assoc]; exact hx1)⟩)
      obtain ⟨hM1, hM2⟩ := hM
      have g1 : decide (n < M) = true := decide_eq_true hM1
      have l0 : (0 : Int) ≤ (n : Int) := by omega
      have l1 : (n : Int) < (M : Int) := by omega
      have r0 : IntKind.i64.wrap (2 * p) = 2 * p := w64 (by omega) (by omega)
      have r1 : IntKind.i64.wrap (2 * p + H) = 2 * p + H := w64 (by omega) (by omega)
      clear hy0 hy1 hx0 hx1 k1 ix0 ix1 hnM hn14 HR
      go_wp2
      obtain ⟨d0, d1⟩ := KR.out wr h1.out.1
      refine bxh_start (S := fun W => W.cell? ⟨br, orr + n * 2, none⟩ = some (.int .i64 x0) ∧ W.cell? ⟨br, orr + n * 2 + 1, none⟩ = some (.int .i64 x1) ∧ W.cell? ⟨w.heap.size, 1, none⟩ = some (.int .i64 p) ∧ True ∧ True ∧ True) (by kernel_rfl) ?_
      have hS : (fun W : World => W.cell? ⟨br, orr + n * 2, none⟩ = some (.int .i64 x0) ∧ W.cell? ⟨br, orr + n * 2 + 1, none⟩ = some (.int .i64 x1) ∧ W.cell? ⟨w.heap.size, 1, none⟩ = some (.int .i64 p) ∧ True ∧ True ∧ True) wr.drew := ⟨d0, d1, c1, trivial, trivial, trivial⟩
      have HS := Lib.hid hS
      refine bxh_take (i := 0) (v := ?_) rfl (by kernel_rfl) (by kernel_rfl) (by kernel_rfl) (fun _ _ _ h => h) (Or.inl ⟨by kernel_rfl, ?_⟩) (by assumption) ?_; rotate_left; (intro w hSw; obtain ⟨q0, q1, q2, q3, q4, q5⟩ := hSw; go_simp <;> with_reducible rfl); (simp only [Act.put, List.getElem_toArray, List.getElem_cons_zero, List.getElem_cons_succ, List.setIfInBounds_toArray, List.set_cons_zero, List.set_cons_succ])
      refine bxh_take (i := 1) (v := ?_) rfl (by kernel_rfl) (by kernel_rfl) (by kernel_rfl) (fun _ _ _ h => h) (Or.inl ⟨by kernel_rfl, ?_⟩) (by assumption) ?_; rotate_left; (intro w hSw; obtain ⟨q0, q1, q2, q3, q4, q5⟩ := hSw; go_simp <;> with_reducible rfl); (simp only [Act.put, List.getElem_toArray, List.getElem_cons_zero, List.getElem_cons_succ, List.setIfInBounds_toArray, List.set_cons_zero, List.set_cons_succ])
      refine bxh_take (i := 2) (v := ?_) rfl (by kernel_rfl) (by kernel_rfl) (by kernel_rfl) (fun _ _ _ h => h) (Or.inl ⟨by kernel_rfl, ?_⟩) (by assumption) ?_; rotate_left; (intro w hSw; obtain ⟨q0, q1, q2, q3, q4, q5⟩ := hSw; go_simp <;> with_reducible rfl); (simp only [Act.put, List.getElem_toArray, List.getElem_cons_zero, List.getElem_cons_succ, List.setIfInBounds_toArray, List.set_cons_zero, List.set_cons_succ])
      refine bxh_take (i := 3) (v := ?_) rfl (by kernel_rfl) (by kernel_rfl) (by kernel_rfl) (fun _ _ _ h => h) (Or.inl ⟨by kernel_rfl, ?_⟩) (by assumption) ?_; rotate_left; (intro w hSw; obtain ⟨q0, q1, q2, q3, q4, q5⟩ := hSw; go_simp <;> with_reducible rfl); (simp only [Act.put, List.getElem_toArray, List.getElem_cons_zero, List.getElem_cons_succ, List.setIfInBounds_toArray, List.set_cons_zero, List.set_cons_succ])
      refine bxh_take (i := 4) (v := ?_) rfl (by kernel_rfl) (by kernel_rfl) (by kernel_rfl) (fun _ _ _ h => h) (Or.inl ⟨by kernel_rfl, ?_⟩) (by assumption) ?_; rotate_left; (intro w hSw; obtain ⟨q0, q1, q2, q3, q4, q5⟩ := hSw; go_simp <;> with_reducible rfl); (simp only [Act.put, List.getElem_toArray, List.getElem_cons_zero, List.getElem_cons_succ, List.setIfInBounds_toArray, List.set_cons_zero, List.set_cons_succ])
      refine bxh_take (i := 5) (v := ?_) rfl (by kernel_rfl) (by kernel_rfl) (by kernel_rfl) (fun _ _ _ h => h) (Or.inl ⟨by kernel_rfl, ?_⟩) (by assumption) ?_; rotate_left; (intro w hSw; obtain ⟨q0, q1, q2, q3, q4, q5⟩ := hSw; go_simp <;> with_reducible rfl); (simp only [Act.put, List.getElem_toArray, List.getElem_cons_zero, List.getElem_cons_succ, List.setIfInBounds_toArray, List.set_cons_zero, List.set_cons_succ])
      refine bxh_take (i := 6) (v := ?_) rfl (by kernel_rfl) (by kernel_rfl) (by kernel_rfl) (fun _ _ _ h => h) (Or.inl ⟨by kernel_rfl, ?_⟩) (by assumption) ?_; rotate_left; (intro w hSw; obtain ⟨q0, q1, q2, q3, q4, q5⟩ := hSw; go_simp <;> with_reducible rfl); (simp only [Act.put, List.getElem_toArray, List.getElem_cons_zero, List.getElem_cons_succ, List.setIfInBounds_toArray, List.set_cons_zero, List.set_cons_succ])
      refine bxh_take (i := 7) (v := ?_) rfl (by kernel_rfl) (by kernel_rfl) (by kernel_rfl) (fun _ _ _ h => h) (Or.inl ⟨by kernel_rfl, ?_⟩) (by assumption) ?_; rotate_left; (intro w hSw; obtain ⟨q0, q1, q2, q3, q4, q5⟩ := hSw; go_simp <;> with_reducible rfl); (simp only [Act.put, List.getElem_toArray, List.getElem_cons_zero, List.getElem_cons_succ, List.setIfInBounds_toArray, List.set_cons_zero, List.set_cons_succ])
      refine bxh_take (i := 8) (v := ?_) rfl (by kernel_rfl) (by kernel_rfl) (by kernel_rfl) (fun _ _ _ h => h) (Or.inl ⟨by kernel_rfl, ?_⟩) (by assumption) ?_; rotate_left; (intro w hSw; obtain ⟨q0, q1, q2, q3, q4, q5⟩ := hSw; go_simp <;> with_reducible rfl); (simp only [Act.put, List.getElem_toArray, List.getElem_cons_zero, List.getElem_cons_succ, List.setIfInBounds_toArray, List.set_cons_zero, List.set_cons_succ])
      refine bxh_take (i := 9) (v := ?_) rfl (by kernel_rfl) (by kernel_rfl) (by kernel_rfl) (fun _ _ _ h => h) (Or.inl ⟨by kernel_rfl, ?_⟩) (by assumption) ?_; rotate_left; (intro w hSw; obtain ⟨q0, q1, q2, q3, q4, q5⟩ := hSw; go_simp <;> with_reducible rfl); (simp only [Act.put, List.getElem_toArray, List.getElem_cons_zero, List.getElem_cons_succ, List.setIfInBounds_toArray, List.set_cons_zero, List.set_cons_succ])
      refine bxh_next (i := 10) (by kernel_rfl) rfl (fun K hK => ?_)
      go_simp
      refine (C0.out _).mono ?_
      rintro e w' ⟨rfl, rfl⟩
      refine hK.out _ _ HS.out (fun hS => ?_)
      clear hK
      refine bxh_take (i := 11) (v := ?_) rfl (by kernel_rfl) (by kernel_rfl) (by kernel_rfl) (fun _ _ _ h => h) (Or.inl ⟨by kernel_rfl, ?_⟩) (by assumption) ?_; rotate_left; (intro w hSw; obtain ⟨q0, q1, q2, q3, q4, q5⟩ := hSw; go_simp <;> with_reducible rfl); (simp only [Act.put, List.getElem_toArray, List.getElem_cons_zero, List.getElem_cons_succ, List.setIfInBounds_toArray, List.set_cons_zero, List.set_cons_succ])
      refine bxh_done (by kernel_rfl) ?_ _
      clear r1
      by_cases hge : 2 * p ≤ y0
      · go_wp2_with (go_at_call 9; refine (C1.out _).mono ?_; rintro e w' ⟨rfl, rfl⟩)
        generalize hX : B + y0 - 2 * p = X
        have bX : 0 ≤ X ∧ X ≤ 1000000 := by omega
        clear hX hge
        obtain ⟨bx, hbx⟩ : ∃ bx, wr.heap.size = bx := ⟨_, rfl⟩
        obtain ⟨wi, hwi⟩ : ∃ wi, (wr.alloc (.cells #[.int .i64 X, .int .u64 y1] 71)).drew = wi := ⟨_, rfl⟩
        have HBX := Lib.hid (show wi.heap[bx]? = some (.cells #[.int .i64 X, .int .u64 y1] 71 (0, 0)) from by rw [← hwi, ← hbx]; exact World.alloc_heap_new wr _)
        have HOI := Lib.hid (show wi.ownsRow (w.heap.size + 1) 71 2 (.slice av l.length cv) l.length (wrs l) from by rw [← hwi]; exact owns_below (HK3.out.alloc _) (Below.refl _ _).drew)
        have HOne := Lib.hid (show One w wi k p c from by rw [← hwi]; exact one_call (one_call h1.out (blk_alloc _ _)) (Below.refl _ _).drew)
        have hbz : w.heap.size < bx := by omega
        rw [hbx, hwi]
        clear hwi hbx h1 HK3 c0 c1 c2 d0 d1 HS C0 C1 KR
        obtain ⟨wo, rfl⟩ : ∃ wo : World, wo = wr := ⟨_, rfl⟩
        go_loopw [14, 15] (fun z i wr => ∃ (j : Nat) (b : Bool), j ≤ l.length ∧ i = .int .i64 j ∧ z = .bool b ∧ Hid (wr.heap[bx]? = some (.cells #[.int .i64 X, .int .u64 y1] 71 (0, 0))) ∧ Hid (wr.ownsRow (w.heap.size + 1) 71 2 (.slice av l.length cv) l.length (wrs l)) ∧ Hid (One w wr k p c)) (fun _ i _ => l.length - (intOf i).toNat)
        case atStart => exact ⟨0, false, by omega, rfl, rfl, HBX, HOI, HOne⟩
        case round =>
          obtain ⟨j, b, hj, rfl, rfl, hb, ho, h1⟩ := hrel
          clear HBX HOI HOne
          have y5 := blk_cell hb.out (i := 0) (v := .int .i64 X) rfl
          have y6 := blk_cell hb.out (i := 1) (v := .int .u64 y1) rfl
          have hzj := (one_cells h1.out).2.2.2
          by_cases hlt : j = l.length
          · have hl2 : decide (j < l.length) = false := decide_eq_false (by omega)
            cases b with
            | true =>
              go_wp2
              go_roundw
              case rel => exact ⟨n + 1, by omega, by omega, by go_num, Lib.hid ⟨l, by omega, HK2.out, ho.out⟩, h1⟩
              case measure => simp [intOf]; omega
            | false =>
              go_wp2_with (first | (at_builtin; refine wpList_append_own _ rfl (.tmp 92) (.tmp 94) 26 (by rfl) (w.heap.size + 1) 71 i0 _ 2 16 under_writes hi hz0 hz1 hz2 rfl (by decide) _ _ _ (by rfl) (ho.out.alloc _) ⟨wr.heap.size, 0, none⟩ 1 1 [.int .i64 X, .int .u64 y1] (by rfl) (by rfl) (World.news_of_block (World.alloc_heap_new wr _)) (by intro u hu; simp at hu; rcases hu with rfl | rfl <;> rfl) (by unfold maxLen; omega) (by omega) (by simp; omega) ?_; intro v9 w9 hown9 hg9 _))
              have R1 := Lib.hid (show SomeW w9 (w.heap.size + 1) v9 (n + 1) from ⟨l ++ [(X, y1)], by simp; omega, by intro z hz; rcases List.mem_append.1 hz with hz | hz; exact HK2.out z hz; simp only [List.mem_singleton] at hz; subst hz; exact ⟨bX, by simp only; omega⟩, by rw [wrs_append]; simpa [wrs] using hown9⟩)
              have R2 := Lib.hid (one_grown (one_call h1.out (blk_alloc _ _)) hg9 (fun r hr => by have := (ho.out.lt r hr).1; omega))
              clear hown9 hg9
              go_roundw
              case rel => exact ⟨n + 1, by omega, by omega, by go_num, R1, R2⟩
              case measure => simp [intOf]; omega
          · have hl2 : decide (j < l.length) = true := decide_eq_true (by omega)
            obtain ⟨gl, cl', hve, hgl1, hgl2⟩ := World.ownsRow.form ho.out (by omega)
            cases hve
            obtain ⟨x, hx⟩ : ∃ x, l[j]? = some x := ⟨_, List.getElem?_eq_getElem (by omega)⟩
            have e1 : wr.cell? ⟨gl, j * 2, none⟩ = some (.int .i64 x.1) := by have := ho.out.cells (g := gl) rfl (2 * j) _ (wrs_at _ _ _ hx).1; rw [add_at] at this; rw [Nat.mul_comm]; simpa using this
            have l2 : (0 : Int) ≤ (j : Int) := by omega
            have l3 : (j : Int) < (l.length : Int) := by omega
            have R1 := Lib.hid (show wr.drew.heap[bx]? = some (.cells #[.int .i64 X, .int .u64 y1] 71 (0, 0)) from hb.out)
            have R2 := Lib.hid (owns_below ho.out (Below.refl _ _).drew)
            have R3 := Lib.hid (one_call h1.out (Below.refl _ _).drew)
            clear hx
            cases b with
            | true =>
              go_wp2
              refine bxh_start (S := fun W => W.cell? ⟨gl, j * 2, none⟩ = some (.int .i64 x.1) ∧ W.cell? ⟨bx, 0, none⟩ = some (.int .i64 X) ∧ True ∧ True ∧ True ∧ True) (by kernel_rfl) ?_
              have hS : (fun W : World => W.cell? ⟨gl, j * 2, none⟩ = some (.int .i64 x.1) ∧ W.cell? ⟨bx, 0, none⟩ = some (.int .i64 X) ∧ True ∧ True ∧ True ∧ True) wr.drew := ⟨e1, y5, trivial, trivial, trivial, trivial⟩
              refine bxh_take (i := 0) (v := ?_) rfl (by kernel_rfl) (by kernel_rfl) (by kernel_rfl) (fun _ _ _ h => h) (Or.inl ⟨by kernel_rfl, ?_⟩) (by assumption) ?_; rotate_left; (intro w hSw; obtain ⟨q0, q1, q2, q3, q4, q5⟩ := hSw; go_simp <;> with_reducible rfl); (simp only [Act.put, List.getElem_toArray, List.getElem_cons_zero, List.getElem_cons_succ, List.setIfInBounds_toArray, List.set_cons_zero, List.set_cons_succ])
              refine bxh_take (i := 1) (v := ?_) rfl (by kernel_rfl) (by kernel_rfl) (by kernel_rfl) (fun _ _ _ h => h) (Or.inl ⟨by kernel_rfl, ?_⟩) (by assumption) ?_; rotate_left; (intro w hSw; obtain ⟨q0, q1, q2, q3, q4, q5⟩ := hSw; go_simp <;> with_reducible rfl); (simp only [Act.put, List.getElem_toArray, List.getElem_cons_zero, List.getElem_cons_succ, List.setIfInBounds_toArray, List.set_cons_zero, List.set_cons_succ])
              refine bxh_skip (i := 2) rfl (by kernel_rfl) (by kernel_rfl) (by kernel_rfl) (fun _ _ _ h => h) (by kernel_rfl) (by assumption) ?_; (simp only [Act.put, List.getElem_toArray, List.getElem_cons_zero, List.getElem_cons_succ, List.setIfInBounds_toArray, List.set_cons_zero, List.set_cons_succ])
              refine bxh_skip (i := 3) rfl (by kernel_rfl) (by kernel_rfl) (by kernel_rfl) (fun _ _ _ h => h) (by kernel_rfl) (by assumption) ?_; (simp only [Act.put, List.getElem_toArray, List.getElem_cons_zero, List.getElem_cons_succ, List.setIfInBounds_toArray, List.set_cons_zero, List.set_cons_succ])
              refine bxh_skip (i := 4) rfl (by kernel_rfl) (by kernel_rfl) (by kernel_rfl) (fun _ _ _ h => h) (by kernel_rfl) (by assumption) ?_; (simp only [Act.put, List.getElem_toArray, List.getElem_cons_zero, List.getElem_cons_succ, List.setIfInBounds_toArray, List.set_cons_zero, List.set_cons_succ])
              refine bxh_skip (i := 5) rfl (by kernel_rfl) (by kernel_rfl) (by kernel_rfl) (fun _ _ _ h => h) (by kernel_rfl) (by assumption) ?_; (simp only [Act.put, List.getElem_toArray, List.getElem_cons_zero, List.getElem_cons_succ, List.setIfInBounds_toArray, List.set_cons_zero, List.set_cons_succ])
              refine bxh_skip (i := 6) rfl (by kernel_rfl) (by kernel_rfl) (by kernel_rfl) (fun _ _ _ h => h) (by kernel_rfl) (by assumption) ?_; (simp only [Act.put, List.getElem_toArray, List.getElem_cons_zero, List.getElem_cons_succ, List.setIfInBounds_toArray, List.set_cons_zero, List.set_cons_succ])
              refine bxh_skip (i := 7) rfl (by kernel_rfl) (by kernel_rfl) (by kernel_rfl) (fun _ _ _ h => h) (by kernel_rfl) (by assumption) ?_; (simp only [Act.put, List.getElem_toArray, List.getElem_cons_zero, List.getElem_cons_succ, List.setIfInBounds_toArray, List.set_cons_zero, List.set_cons_succ])
              refine bxh_skip (i := 8) rfl (by kernel_rfl) (by kernel_rfl) (by kernel_rfl) (fun _ _ _ h => h) (by kernel_rfl) (by assumption) ?_; (simp only [Act.put, List.getElem_toArray, List.getElem_cons_zero, List.getElem_cons_succ, List.setIfInBounds_toArray, List.set_cons_zero, List.set_cons_succ])
              refine bxh_skip (i := 9) rfl (by kernel_rfl) (by kernel_rfl) (by kernel_rfl) (fun _ _ _ h => h) (by kernel_rfl) (by assumption) ?_; (simp only [Act.put, List.getElem_toArray, List.getElem_cons_zero, List.getElem_cons_succ, List.setIfInBounds_toArray, List.set_cons_zero, List.set_cons_succ])
              refine bxh_take (i := 10) (v := ?_) rfl (by kernel_rfl) (by kernel_rfl) (by kernel_rfl) (fun _ _ _ h => h) (Or.inl ⟨by kernel_rfl, ?_⟩) (by assumption) ?_; rotate_left; (intro w hSw; obtain ⟨q0, q1, q2, q3, q4, q5⟩ := hSw; go_simp <;> with_reducible rfl); (simp only [Act.put, List.getElem_toArray, List.getElem_cons_zero, List.getElem_cons_succ, List.setIfInBounds_toArray, List.set_cons_zero, List.set_cons_succ])
              refine bxh_take (i := 11) (v := ?_) rfl (by kernel_rfl) (by kernel_rfl) (by kernel_rfl) (fun _ _ _ h => h) (Or.inl ⟨by kernel_rfl, ?_⟩) (by assumption) ?_; rotate_left; (intro w hSw; obtain ⟨q0, q1, q2, q3, q4, q5⟩ := hSw; go_simp <;> with_reducible rfl); (simp only [Act.put, List.getElem_toArray, List.getElem_cons_zero, List.getElem_cons_succ, List.setIfInBounds_toArray, List.set_cons_zero, List.set_cons_succ])
              refine bxh_done (by kernel_rfl) ?_ _
              go_wp2
              go_roundw
              case rel => exact ⟨j + 1, true, by omega, by go_num, rfl, R1, R2, R3⟩
              case measure => simp [intOf]; omega
            | false =>
              go_wp2
              refine bxh_start (S := fun W => W.cell? ⟨gl, j * 2, none⟩ = some (.int .i64 x.1) ∧ W.cell? ⟨bx, 0, none⟩ = some (.int .i64 X) ∧ True ∧ True ∧ True ∧ True) (by kernel_rfl) ?_
              have hS : (fun W : World => W.cell? ⟨gl, j * 2, none⟩ = some (.int .i64 x.1) ∧ W.cell? ⟨bx, 0, none⟩ = some (.int .i64 X) ∧ True ∧ True ∧ True ∧ True) wr.drew := ⟨e1, y5, trivial, trivial, trivial, trivial⟩
              refine bxh_take (i := 0) (v := ?_) rfl (by kernel_rfl) (by kernel_rfl) (by kernel_rfl) (fun _ _ _ h => h) (Or.inl ⟨by kernel_rfl, ?_⟩) (by assumption) ?_; rotate_left; (intro w hSw; obtain ⟨q0, q1, q2, q3, q4, q5⟩ := hSw; go_simp <;> with_reducible rfl); (simp only [Act.put, List.getElem_toArray, List.getElem_cons_zero, List.getElem_cons_succ, List.setIfInBounds_toArray, List.set_cons_zero, List.set_cons_succ])
              refine bxh_take (i := 1) (v := ?_) rfl (by kernel_rfl) (by kernel_rfl) (by kernel_rfl) (fun _ _ _ h => h) (Or.inl ⟨by kernel_rfl, ?_⟩) (by assumption) ?_; rotate_left; (intro w hSw; obtain ⟨q0, q1, q2, q3, q4, q5⟩ := hSw; go_simp <;> with_reducible rfl); (simp only [Act.put, List.getElem_toArray, List.getElem_cons_zero, List.getElem_cons_succ, List.setIfInBounds_toArray, List.set_cons_zero, List.set_cons_succ])
              refine bxh_take (i := 2) (v := ?_) rfl (by kernel_rfl) (by kernel_rfl) (by kernel_rfl) (fun _ _ _ h => h) (Or.inl ⟨by kernel_rfl, ?_⟩) (by assumption) ?_; rotate_left; (intro w hSw; obtain ⟨q0, q1, q2, q3, q4, q5⟩ := hSw; go_simp <;> with_reducible rfl); (simp only [Act.put, List.getElem_toArray, List.getElem_cons_zero, List.getElem_cons_succ, List.setIfInBounds_toArray, List.set_cons_zero, List.set_cons_succ])
              refine bxh_take (i := 3) (v := ?_) rfl (by kernel_rfl) (by kernel_rfl) (by kernel_rfl) (fun _ _ _ h => h) (Or.inl ⟨by kernel_rfl, ?_⟩) (by assumption) ?_; rotate_left; (intro w hSw; obtain ⟨q0, q1, q2, q3, q4, q5⟩ := hSw; go_simp <;> with_reducible rfl); (simp only [Act.put, List.getElem_toArray, List.getElem_cons_zero, List.getElem_cons_succ, List.setIfInBounds_toArray, List.set_cons_zero, List.set_cons_succ])
              refine bxh_take (i := 4) (v := ?_) rfl (by kernel_rfl) (by kernel_rfl) (by kernel_rfl) (fun _ _ _ h => h) (Or.inl ⟨by kernel_rfl, ?_⟩) (by assumption) ?_; rotate_left; (intro w hSw; obtain ⟨q0, q1, q2, q3, q4, q5⟩ := hSw; go_simp <;> with_reducible rfl); (simp only [Act.put, List.getElem_toArray, List.getElem_cons_zero, List.getElem_cons_succ, List.setIfInBounds_toArray, List.set_cons_zero, List.set_cons_succ])
              refine bxh_take (i := 5) (v := ?_) rfl (by kernel_rfl) (by kernel_rfl) (by kernel_rfl) (fun _ _ _ h => h) (Or.inl ⟨by kernel_rfl, ?_⟩) (by assumption) ?_; rotate_left; (intro w hSw; obtain ⟨q0, q1, q2, q3, q4, q5⟩ := hSw; go_simp <;> with_reducible rfl); (simp only [Act.put, List.getElem_toArray, List.getElem_cons_zero, List.getElem_cons_succ, List.setIfInBounds_toArray, List.set_cons_zero, List.set_cons_succ])
              refine bxh_take (i := 6) (v := ?_) rfl (by kernel_rfl) (by kernel_rfl) (by kernel_rfl) (fun _ _ _ h => h) (Or.inl ⟨by kernel_rfl, ?_⟩) (by assumption) ?_; rotate_left; (intro w hSw; obtain ⟨q0, q1, q2, q3, q4, q5⟩ := hSw; go_simp <;> with_reducible rfl); (simp only [Act.put, List.getElem_toArray, List.getElem_cons_zero, List.getElem_cons_succ, List.setIfInBounds_toArray, List.set_cons_zero, List.set_cons_succ])
              refine bxh_take (i := 7) (v := ?_) rfl (by kernel_rfl) (by kernel_rfl) (by kernel_rfl) (fun _ _ _ h => h) (Or.inl ⟨by kernel_rfl, ?_⟩) (by assumption) ?_; rotate_left; (intro w hSw; obtain ⟨q0, q1, q2, q3, q4, q5⟩ := hSw; go_simp <;> with_reducible rfl); (simp only [Act.put, List.getElem_toArray, List.getElem_cons_zero, List.getElem_cons_succ, List.setIfInBounds_toArray, List.set_cons_zero, List.set_cons_succ])
              refine bxh_take (i := 8) (v := ?_) rfl (by kernel_rfl) (by kernel_rfl) (by kernel_rfl) (fun _ _ _ h => h) (Or.inl ⟨by kernel_rfl, ?_⟩) (by assumption) ?_; rotate_left; (intro w hSw; obtain ⟨q0, q1, q2, q3, q4, q5⟩ := hSw; go_simp <;> with_reducible rfl); (simp only [Act.put, List.getElem_toArray, List.getElem_cons_zero, List.getElem_cons_succ, List.setIfInBounds_toArray, List.set_cons_zero, List.set_cons_succ])
              refine bxh_take (i := 9) (v := ?_) rfl (by kernel_rfl) (by kernel_rfl) (by kernel_rfl) (fun _ _ _ h => h) (Or.inl ⟨by kernel_rfl, ?_⟩) (by assumption) ?_; rotate_left; (intro w hSw; obtain ⟨q0, q1, q2, q3, q4, q5⟩ := hSw; go_simp <;> with_reducible rfl); (simp only [Act.put, List.getElem_toArray, List.getElem_cons_zero, List.getElem_cons_succ, List.setIfInBounds_toArray, List.set_cons_zero, List.set_cons_succ])
              refine bxh_take (i := 10) (v := ?_) rfl (by kernel_rfl) (by kernel_rfl) (by kernel_rfl) (fun _ _ _ h => h) (Or.inl ⟨by kernel_rfl, ?_⟩) (by assumption) ?_; rotate_left; (intro w hSw; obtain ⟨q0, q1, q2, q3, q4, q5⟩ := hSw; go_simp <;> with_reducible rfl); (simp only [Act.put, List.getElem_toArray, List.getElem_cons_zero, List.getElem_cons_succ, List.setIfInBounds_toArray, List.set_cons_zero, List.set_cons_succ])
              refine bxh_take (i := 11) (v := ?_) rfl (by kernel_rfl) (by kernel_rfl) (by kernel_rfl) (fun _ _ _ h => h) (Or.inl ⟨by kernel_rfl, ?_⟩) (by assumption) ?_; rotate_left; (intro w hSw; obtain ⟨q0, q1, q2, q3, q4, q5⟩ := hSw; go_simp <;> with_reducible rfl); (simp only [Act.put, List.getElem_toArray, List.getElem_cons_zero, List.getElem_cons_succ, List.setIfInBounds_toArray, List.set_cons_zero, List.set_cons_succ])
              refine bxh_done (by kernel_rfl) ?_ _
              go_wp2
              go_roundw
              case rel => exact ⟨j + 1, x.1 == X, by omega, by go_num, rfl, R1, R2, R3⟩
              case measure => simp [intOf]; omega
      · go_wp2_with (go_at_call 9; refine (C1.out _).mono ?_; rintro e w' ⟨rfl, rfl⟩)
        generalize hX : A + y0 = X
        have bX : 0 ≤ X ∧ X ≤ 1000000 := by omega
        clear hX hge
        obtain ⟨bx, hbx⟩ : ∃ bx, wr.heap.size = bx := ⟨_, rfl⟩
        obtain ⟨wi, hwi⟩ : ∃ wi, (wr.alloc (.cells #[.int .i64 X, .int .u64 y1] 71)).drew = wi := ⟨_, rfl⟩
        have HBX := Lib.hid (show wi.heap[bx]? = some (.cells #[.int .i64 X, .int .u64 y1] 71 (0, 0)) from by rw [← hwi, ← hbx]; exact World.alloc_heap_new wr _)
        have HOI := Lib.hid (show wi.ownsRow (w.heap.size + 1) 71 2 (.slice av l.length cv) l.length (wrs l) from by rw [← hwi]; exact owns_below (HK3.out.alloc _) (Below.refl _ _).drew)
        have HOne := Lib.hid (show One w wi k p c from by rw [← hwi]; exact one_call (one_call h1.out (blk_alloc _ _)) (Below.refl _ _).drew)
        have hbz : w.heap.size < bx := by omega
        rw [hbx, hwi]
        clear hwi hbx h1 HK3 c0 c1 c2 d0 d1 HS C0 C1 KR
        obtain ⟨wo, rfl⟩ : ∃ wo : World, wo = wr := ⟨_, rfl⟩
        go_loopw [14, 15] (fun z i wr => ∃ (j : Nat) (b : Bool), j ≤ l.length ∧ i = .int .i64 j ∧ z = .bool b ∧ Hid (wr.heap[bx]? = some (.cells #[.int .i64 X, .int .u64 y1] 71 (0, 0))) ∧ Hid (wr.ownsRow (w.heap.size + 1) 71 2 (.slice av l.length cv) l.length (wrs l)) ∧ Hid (One w wr k p c)) (fun _ i _ => l.length - (intOf i).toNat)
        case atStart => exact ⟨0, false, by omega, rfl, rfl, HBX, HOI, HOne⟩
        case round =>
          obtain ⟨j, b, hj, rfl, rfl, hb, ho, h1⟩ := hrel
          clear HBX HOI HOne
          have y5 := blk_cell hb.out (i := 0) (v := .int .i64 X) rfl
          have y6 := blk_cell hb.out (i := 1) (v := .int .u64 y1) rfl
          have hzj := (one_cells h1.out).2.2.2
          by_cases hlt : j = l.length
          · have hl2 : decide (j < l.length) = false := decide_eq_false (by omega)
            cases b with
            | true =>
              go_wp2
              go_roundw
              case rel => exact ⟨n + 1, by omega, by omega, by go_num, Lib.hid ⟨l, by omega, HK2.out, ho.out⟩, h1⟩
              case measure => simp [intOf]; omega
            | false =>
              go_wp2_with (first | (at_builtin; refine wpList_append_own _ rfl (.tmp 92) (.tmp 94) 26 (by rfl) (w.heap.size + 1) 71 i0 _ 2 16 under_writes hi hz0 hz1 hz2 rfl (by decide) _ _ _ (by rfl) (ho.out.alloc _) ⟨wr.heap.size, 0, none⟩ 1 1 [.int .i64 X, .int .u64 y1] (by rfl) (by rfl) (World.news_of_block (World.alloc_heap_new wr _)) (by intro u hu; simp at hu; rcases hu with rfl | rfl <;> rfl) (by unfold maxLen; omega) (by omega) (by simp; omega) ?_; intro v9 w9 hown9 hg9 _))
              have R1 := Lib.hid (show SomeW w9 (w.heap.size + 1) v9 (n + 1) from ⟨l ++ [(X, y1)], by simp; omega, by intro z hz; rcases List.mem_append.1 hz with hz | hz; exact HK2.out z hz; simp only [List.mem_singleton] at hz; subst hz; exact ⟨bX, by simp only; omega⟩, by rw [wrs_append]; simpa [wrs] using hown9⟩)
              have R2 := Lib.hid (one_grown (one_call h1.out (blk_alloc _ _)) hg9 (fun r hr => by have := (ho.out.lt r hr).1; omega))
              clear hown9 hg9
              go_roundw
              case rel => exact ⟨n + 1, by omega, by omega, by go_num, R1, R2⟩
              case measure => simp [intOf]; omega
          · have hl2 : decide (j < l.length) = true := decide_eq_true (by omega)
            obtain ⟨gl, cl', hve, hgl1, hgl2⟩ := World.ownsRow.form ho.out (by omega)
            cases hve
            obtain ⟨x, hx⟩ : ∃ x, l[j]? = some x := ⟨_, List.getElem?_eq_getElem (by omega)⟩
            have e1 : wr.cell? ⟨gl, j * 2, none⟩ = some (.int .i64 x.1) := by have := ho.out.cells (g := gl) rfl (2 * j) _ (wrs_at _ _ _ hx).1; rw [add_at] at this; rw [Nat.mul_comm]; simpa using this
            have l2 : (0 : Int) ≤ (j : Int) := by omega
            have l3 : (j : Int) < (l.length : Int) := by omega
            have R1 := Lib.hid (show wr.drew.heap[bx]? = some (.cells #[.int .i64 X, .int .u64 y1] 71 (0, 0)) from hb.out)
            have R2 := Lib.hid (owns_below ho.out (Below.refl _ _).drew)
            have R3 := Lib.hid (one_call h1.out (Below.refl _ _).drew)
            clear hx
            cases b with
            | true =>
              go_wp2
              refine bxh_start (S := fun W => W.cell? ⟨gl, j * 2, none⟩ = some (.int .i64 x.1) ∧ W.cell? ⟨bx, 0, none⟩ = some (.int .i64 X) ∧ True ∧ True ∧ True ∧ True) (by kernel_rfl) ?_
              have hS : (fun W : World => W.cell? ⟨gl, j * 2, none⟩ = some (.int .i64 x.1) ∧ W.cell? ⟨bx, 0, none⟩ = some (.int .i64 X) ∧ True ∧ True ∧ True ∧ True) wr.drew := ⟨e1, y5, trivial, trivial, trivial, trivial⟩
              refine bxh_take (i := 0) (v := ?_) rfl (by kernel_rfl) (by kernel_rfl) (by kernel_rfl) (fun _ _ _ h => h) (Or.inl ⟨by kernel_rfl, ?_⟩) (by assumption) ?_; rotate_left; (intro w hSw; obtain ⟨q0, q1, q2, q3, q4, q5⟩ := hSw; go_simp <;> with_reducible rfl); (simp only [Act.put, List.getElem_toArray, List.getElem_cons_zero, List.getElem_cons_succ, List.setIfInBounds_toArray, List.set_cons_zero, List.set_cons_succ])
              refine bxh_take (i := 1) (v := ?_) rfl (by kernel_rfl) (by kernel_rfl) (by kernel_rfl) (fun _ _ _ h => h) (Or.inl ⟨by kernel_rfl, ?_⟩) (by assumption) ?_; rotate_left; (intro w hSw; obtain ⟨q0, q1, q2, q3, q4, q5⟩ := hSw; go_simp <;> with_reducible rfl); (simp only [Act.put, List.getElem_toArray, List.getElem_cons_zero, List.getElem_cons_succ, List.setIfInBounds_toArray, List.set_cons_zero, List.set_cons_succ])
              refine bxh_skip (i := 2) rfl (by kernel_rfl) (by kernel_rfl) (by kernel_rfl) (fun _ _ _ h => h) (by kernel_rfl) (by assumption) ?_; (simp only [Act.put, List.getElem_toArray, List.getElem_cons_zero, List.getElem_cons_succ, List.setIfInBounds_toArray, List.set_cons_zero, List.set_cons_succ])
              refine bxh_skip (i := 3) rfl (by kernel_rfl) (by kernel_rfl) (by kernel_rfl) (fun _ _ _ h => h) (by kernel_rfl) (by assumption) ?_; (simp only [Act.put, List.getElem_toArray, List.getElem_cons_zero, List.getElem_cons_succ, List.setIfInBounds_toArray, List.set_cons_zero, List.set_cons_succ])
              refine bxh_skip (i := 4) rfl (by kernel_rfl) (by kernel_rfl) (by kernel_rfl) (fun _ _ _ h => h) (by kernel_rfl) (by assumption) ?_; (simp only [Act.put, List.getElem_toArray, List.getElem_cons_zero, List.getElem_cons_succ, List.setIfInBounds_toArray, List.set_cons_zero, List.set_cons_succ])
              refine bxh_skip (i := 5) rfl (by kernel_rfl) (by kernel_rfl) (by kernel_rfl) (fun _ _ _ h => h) (by kernel_rfl) (by assumption) ?_; (simp only [Act.put, List.getElem_toArray, List.getElem_cons_zero, List.getElem_cons_succ, List.setIfInBounds_toArray, List.set_cons_zero, List.set_cons_succ])
              refine bxh_skip (i := 6) rfl (by kernel_rfl) (by kernel_rfl) (by kernel_rfl) (fun _ _ _ h => h) (by kernel_rfl) (by assumption) ?_; (simp only [Act.put, List.getElem_toArray, List.getElem_cons_zero, List.getElem_cons_succ, List.setIfInBounds_toArray, List.set_cons_zero, List.set_cons_succ])
              refine bxh_skip (i := 7) rfl (by kernel_rfl) (by kernel_rfl) (by kernel_rfl) (fun _ _ _ h => h) (by kernel_rfl) (by assumption) ?_; (simp only [Act.put, List.getElem_toArray, List.getElem_cons_zero, List.getElem_cons_succ, List.setIfInBounds_toArray, List.set_cons_zero, List.set_cons_succ])
              refine bxh_skip (i := 8) rfl (by kernel_rfl) (by kernel_rfl) (by kernel_rfl) (fun _ _ _ h => h) (by kernel_rfl) (by assumption) ?_; (simp only [Act.put, List.getElem_toArray, List.getElem_cons_zero, List.getElem_cons_succ, List.setIfInBounds_toArray, List.set_cons_zero, List.set_cons_succ])
              refine bxh_skip (i := 9) rfl (by kernel_rfl) (by kernel_rfl) (by kernel_rfl) (fun _ _ _ h => h) (by kernel_rfl) (by assumption) ?_; (simp only [Act.put, List.getElem_toArray, List.getElem_cons_zero, List.getElem_cons_succ, List.setIfInBounds_toArray, List.set_cons_zero, List.set_cons_succ])
              refine bxh_take (i := 10) (v := ?_) rfl (by kernel_rfl) (by kernel_rfl) (by kernel_rfl) (fun _ _ _ h => h) (Or.inl ⟨by kernel_rfl, ?_⟩) (by assumption) ?_; rotate_left; (intro w hSw; obtain ⟨q0, q1, q2, q3, q4, q5⟩ := hSw; go_simp <;> with_reducible rfl); (simp only [Act.put, List.getElem_toArray, List.getElem_cons_zero, List.getElem_cons_succ, List.setIfInBounds_toArray, List.set_cons_zero, List.set_cons_succ])
              refine bxh_take (i := 11) (v := ?_) rfl (by kernel_rfl) (by kernel_rfl) (by kernel_rfl) (fun _ _ _ h => h) (Or.inl ⟨by kernel_rfl, ?_⟩) (by assumption) ?_; rotate_left; (intro w hSw; obtain ⟨q0, q1, q2, q3, q4, q5⟩ := hSw; go_simp <;> with_reducible rfl); (simp only [Act.put, List.getElem_toArray, List.getElem_cons_zero, List.getElem_cons_succ, List.setIfInBounds_toArray, List.set_cons_zero, List.set_cons_succ])
              refine bxh_done (by kernel_rfl) ?_ _
              go_wp2
              go_roundw
              case rel => exact ⟨j + 1, true, by omega, by go_num, rfl, R1, R2, R3⟩
              case measure => simp [intOf]; omega
            | false =>
              go_wp2
              refine bxh_start (S := fun W => W.cell? ⟨gl, j * 2, none⟩ = some (.int .i64 x.1) ∧ W.cell? ⟨bx, 0, none⟩ = some (.int .i64 X) ∧ True ∧ True ∧ True ∧ True) (by kernel_rfl) ?_
              have hS : (fun W : World => W.cell? ⟨gl, j * 2, none⟩ = some (.int .i64 x.1) ∧ W.cell? ⟨bx, 0, none⟩ = some (.int .i64 X) ∧ True ∧ True ∧ True ∧ True) wr.drew := ⟨e1, y5, trivial, trivial, trivial, trivial⟩
              refine bxh_take (i := 0) (v := ?_) rfl (by kernel_rfl) (by kernel_rfl) (by kernel_rfl) (fun _ _ _ h => h) (Or.inl ⟨by kernel_rfl, ?_⟩) (by assumption) ?_; rotate_left; (intro w hSw; obtain ⟨q0, q1, q2, q3, q4, q5⟩ := hSw; go_simp <;> with_reducible rfl); (simp only [Act.put, List.getElem_toArray, List.getElem_cons_zero, List.getElem_cons_succ, List.setIfInBounds_toArray, List.set_cons_zero, List.set_cons_succ])
              refine bxh_take (i := 1) (v := ?_) rfl (by kernel_rfl) (by kernel_rfl) (by kernel_rfl) (fun _ _ _ h => h) (Or.inl ⟨by kernel_rfl, ?_⟩) (by assumption) ?_; rotate_left; (intro w hSw; obtain ⟨q0, q1, q2, q3, q4, q5⟩ := hSw; go_simp <;> with_reducible rfl); (simp only [Act.put, List.getElem_toArray, List.getElem_cons_zero, List.getElem_cons_succ, List.setIfInBounds_toArray, List.set_cons_zero, List.set_cons_succ])
              refine bxh_take (i := 2) (v := ?_) rfl (by kernel_rfl) (by kernel_rfl) (by kernel_rfl) (fun _ _ _ h => h) (Or.inl ⟨by kernel_rfl, ?_⟩) (by assumption) ?_; rotate_left; (intro w hSw; obtain ⟨q0, q1, q2, q3, q4, q5⟩ := hSw; go_simp <;> with_reducible rfl); (simp only [Act.put, List.getElem_toArray, List.getElem_cons_zero, List.getElem_cons_succ, List.setIfInBounds_toArray, List.set_cons_zero, List.set_cons_succ])
              refine bxh_take (i := 3) (v := ?_) rfl (by kernel_rfl) (by kernel_rfl) (by kernel_rfl) (fun _ _ _ h => h) (Or.inl ⟨by kernel_rfl, ?_⟩) (by assumption) ?_; rotate_left; (intro w hSw; obtain ⟨q0, q1, q2, q3, q4, q5⟩ := hSw; go_simp <;> with_reducible rfl); (simp only [Act.put, List.getElem_toArray, List.getElem_cons_zero, List.getElem_cons_succ, List.setIfInBounds_toArray, List.set_cons_zero, List.set_cons_succ])
              refine bxh_take (i := 4) (v := ?_) rfl (by kernel_rfl) (by kernel_rfl) (by kernel_rfl) (fun _ _ _ h => h) (Or.inl ⟨by kernel_rfl, ?_⟩) (by assumption) ?_; rotate_left; (intro w hSw; obtain ⟨q0, q1, q2, q3, q4, q5⟩ := hSw; go_simp <;> with_reducible rfl); (simp only [Act.put, List.getElem_toArray, List.getElem_cons_zero, List.getElem_cons_succ, List.setIfInBounds_toArray, List.set_cons_zero, List.set_cons_succ])
              refine bxh_take (i := 5) (v := ?_) rfl (by kernel_rfl) (by kernel_rfl) (by kernel_rfl) (fun _ _ _ h => h) (Or.inl ⟨by kernel_rfl, ?_⟩) (by assumption) ?_; rotate_left; (intro w hSw; obtain ⟨q0, q1, q2, q3, q4, q5⟩ := hSw; go_simp <;> with_reducible rfl); (simp only [Act.put, List.getElem_toArray, List.getElem_cons_zero, List.getElem_cons_succ, List.setIfInBounds_toArray, List.set_cons_zero, List.set_cons_succ])
              refine bxh_take (i := 6) (v := ?_) rfl (by kernel_rfl) (by kernel_rfl) (by kernel_rfl) (fun _ _ _ h => h) (Or.inl ⟨by kernel_rfl, ?_⟩) (by assumption) ?_; rotate_left; (intro w hSw; obtain ⟨q0, q1, q2, q3, q4, q5⟩ := hSw; go_simp <;> with_reducible rfl); (simp only [Act.put, List.getElem_toArray, List.getElem_cons_zero, List.getElem_cons_succ, List.setIfInBounds_toArray, List.set_cons_zero, List.set_cons_succ])
              refine bxh_take (i := 7) (v := ?_) rfl (by kernel_rfl) (by kernel_rfl) (by kernel_rfl) (fun _ _ _ h => h) (Or.inl ⟨by kernel_rfl, ?_⟩) (by assumption) ?_; rotate_left; (intro w hSw; obtain ⟨q0, q1, q2, q3, q4, q5⟩ := hSw; go_simp <;> with_reducible rfl); (simp only [Act.put, List.getElem_toArray, List.getElem_cons_zero, List.getElem_cons_succ, List.setIfInBounds_toArray, List.set_cons_zero, List.set_cons_succ])
              refine bxh_take (i := 8) (v := ?_) rfl (by kernel_rfl) (by kernel_rfl) (by kernel_rfl) (fun _ _ _ h => h) (Or.inl ⟨by kernel_rfl, ?_⟩) (by assumption) ?_; rotate_left; (intro w hSw; obtain ⟨q0, q1, q2, q3, q4, q5⟩ := hSw; go_simp <;> with_reducible rfl); (simp only [Act.put, List.getElem_toArray, List.getElem_cons_zero, List.getElem_cons_succ, List.setIfInBounds_toArray, List.set_cons_zero, List.set_cons_succ])
              refine bxh_take (i := 9) (v := ?_) rfl (by kernel_rfl) (by kernel_rfl) (by kernel_rfl) (fun _ _ _ h => h) (Or.inl ⟨by kernel_rfl, ?_⟩) (by assumption) ?_; rotate_left; (intro w hSw; obtain ⟨q0, q1, q2, q3, q4, q5⟩ := hSw; go_simp <;> with_reducible rfl); (simp only [Act.put, List.getElem_toArray, List.getElem_cons_zero, List.getElem_cons_succ, List.setIfInBounds_toArray, List.set_cons_zero, List.set_cons_succ])
              refine bxh_take (i := 10) (v := ?_) rfl (by kernel_rfl) (by kernel_rfl) (by kernel_rfl) (fun _ _ _ h => h) (Or.inl ⟨by kernel_rfl, ?_⟩) (by assumption) ?_; rotate_left; (intro w hSw; obtain ⟨q0, q1, q2, q3, q4, q5⟩ := hSw; go_simp <;> with_reducible rfl); (simp only [Act.put, List.getElem_toArray, List.getElem_cons_zero, List.getElem_cons_succ, List.setIfInBounds_toArray, List.set_cons_zero, List.set_cons_succ])
              refine bxh_take (i := 11) (v := ?_) rfl (by kernel_rfl) (by kernel_rfl) (by kernel_rfl) (fun _ _ _ h => h) (Or.inl ⟨by kernel_rfl, ?_⟩) (by assumption) ?_; rotate_left; (intro w hSw; obtain ⟨q0, q1, q2, q3, q4, q5⟩ := hSw; go_simp <;> with_reducible rfl); (simp only [Act.put, List.getElem_toArray, List.getElem_cons_zero, List.getElem_cons_succ, List.setIfInBounds_toArray, List.set_cons_zero, List.set_cons_succ])
              refine bxh_done (by kernel_rfl) ?_ _
              go_wp2
              go_roundw
              case rel => exact ⟨j + 1, x.1 == X, by omega, by go_num, rfl, R1, R2, R3⟩
              case measure => simp [intOf]; omega
    · by_cases hM1 : n < M
      · obtain rfl : n = 14 := by omega
        go_wp2
        go_ret
        exact ⟨⟨_, l, rfl, hll, HK2.out, owns_base HK3.out (by omega)⟩, h1.out.1⟩
      · obtain rfl : n = M := by omega
        go_wp2
        go_ret
        exact ⟨⟨_, l, rfl, by omega, HK2.out, owns_base HK3.out (by omega)⟩, h1.out.1⟩

end Go.Proofs.YthigfjelgbdcfaaDoor
