/- The contracts of the reference's New and of the law's With. -/
import Derived.Test.YthigfjelgbdcfaaDoorGPick
import Derived.Test.YthigfjelgbdcfaaDoorGMemR
import Derived.OwnWalk

set_option linter.unusedSimpArgs false
set_option linter.unusedVariables false

/-! The law's helpers: pick, New, Conf. -/
namespace Go.Proofs.YthigfjelgbdcfaaDoor
open Go.RowKit Go.Maps

theorem pick_any (c n : Int) (w : World) (h0 : -9223372036854775808 ≤ c) (h1 : c ≤ 9223372036854775807) (hn : 0 < n) : Calls Tryd.prog 9 #[.int .i64 c, .int .i64 n] w fun e w' => e = .returned (.int .i64 (pickI c n)) ∧ w = w' := by
  by_cases hc : c < 0
  · exact pick_neg c n w hc h0 hn
  · exact pick_pos c n w hc h1 hn
theorem pick_bd {c n : Int} (hn : 0 < n) : 0 ≤ pickI c n ∧ pickI c n < n := by
  unfold pickI
  split
  · rw [Int.tmod_eq_emod_of_nonneg (by omega)]
    exact ⟨Int.emod_nonneg _ (by omega), Int.emod_lt_of_pos _ hn⟩
  · rw [Int.tmod_eq_emod_of_nonneg (by omega)]
    exact ⟨Int.emod_nonneg _ (by omega), Int.emod_lt_of_pos _ hn⟩

theorem cls_append : ∀ a b : List (Int × Int), cls (a ++ b) = cls a ++ cls b
  | [], b => rfl
  | x :: r, b => by simp [cls, cls_append r b]
theorem cls_zero (n : Nat) : (madeCells #[.int .u64 0, .int .i64 0] (n * 2)).toList = cls (List.replicate n (0, 0)) := by
  induction n with
  | zero => simp [madeCells, cls]
  | succ n ih =>
    rw [List.replicate_succ', cls_append, ← ih]
    have e : (n + 1) * 2 = n * 2 + 1 + 1 := by omega
    have m0 : n * 2 % 2 = 0 := by omega
    have m1 : (n * 2 + 1) % 2 = 1 := by omega
    rw [e]
    unfold madeCells
    rw [Array.range_succ, Array.range_succ]
    simp [cls, m0, m1]

theorem under_cells' : Tryd.prog.underlying 30 = some (.slice 68) := by kernel_rfl

/-- 'New': so many empty cells -/
theorem fNew (n : Nat) (w : World) (hn : n ≤ 40000) : Calls Tryd.prog 30 #[.int .i64 (n : Int)] w fun e w' => (∃ v, e = .returned (.tuple #[.agg #[v], .int .i64 0]) ∧ w'.ownsRow w.heap.size 68 2 v n (cls (List.replicate n (0, 0)))) ∧ Below w.heap.size w w' := by
  obtain ⟨i0, hi, hz0, hz1, hz2⟩ := info_parts cell_info
  have g0 : decide ((n : Int) < 0) = false := decide_eq_false (by omega)
  have g1 : decide ((1048576 : Int) < (n : Int)) = false := decide_eq_false (by omega)
  have k1 : i0.bytes * n ≤ 281474976710656 := by rw [hz2]; omega
  have k2 : n ≤ maxLen := by unfold maxLen; omega
  have HK := Lib.hid (And.intro k1 k2)
  clear hn k1 k2
  go_enter Tryd.func30, Tryd.ntmps30
  go_wp2_with (refine wpList_make_full _ rfl (.tmp 11) (.tmp 11) 30 rfl w.heap.size 68 i0 _ 2 under_cells' hi hz0 hz1 .i64 .i64 (n : Int) (n : Int) n (by rfl) (by rfl) rfl rfl HK.out.1 HK.out.2 (by simp) ?_; intro w1 hown hg; have b1 := (hg.block w.heap.size (by simp) (by simp)).trans (World.alloc_heap_new w _); have f1 := blk_frozen b1 (i := 0); have y1 := blk_cell b1 (i := 0) (v := .slice none 0 0) rfl)
  have y2 := blk_cell (blk_set (i := 0) b1 (.slice (some ⟨w.heap.size + 1, 0, none⟩) n n)) (i := 0) (v := .slice (some ⟨w.heap.size + 1, 0, none⟩) n n) rfl
  have hB : Below w.heap.size w w1 := (blk_alloc w _).grown hg (by simp) (by simp)
  refine ⟨rfl, .tuple #[.agg #[.slice (some ⟨w.heap.size + 1, 0, none⟩) n n], .int .i64 0], by simp [results, Tryd.f30, go_sem, y2], ⟨_, rfl, ?_⟩, hB.setCell (p := ⟨w.heap.size, 0, none⟩) (by simp) _⟩
  have h1 : w1.ownsRow w.heap.size 68 2 (.slice (some ⟨w.heap.size + 1, 0, none⟩) n n) n (cls (List.replicate n (0, 0))) := by
    rw [← cls_zero]
    simpa [Value.cells] using hown
  exact owns_set h1 b1 (by decide) _ _

set_option linter.unusedSimpArgs false in
set_option maxHeartbeats 2000000 in
/-- 'Conf' -/
theorem lConf (n0 n1 n2 : Int) (w : World) (h0 : -9223372036854775808 ≤ n0 ∧ n0 ≤ 9223372036854775807) (h1 : -9223372036854775808 ≤ n1 ∧ n1 ≤ 9223372036854775807) (h2 : -9223372036854775808 ≤ n2 ∧ n2 ≤ 9223372036854775807) :
    Calls Tryd.prog 6 #[.agg #[.int .i64 n0, .int .i64 n1, .int .i64 n2]] w fun e w' => e = .returned (conf (1 + pickI n0 5) (1 + pickI n1 4) (1 + pickI n2 4)) ∧ Below w.heap.size w w' := by
  have C0 := Lib.hid (fun w => pick_any n0 5 w h0.1 h0.2 (by omega))
  have C1 := Lib.hid (fun w => pick_any n1 4 w h1.1 h1.2 (by omega))
  have C2 := Lib.hid (fun w => pick_any n2 4 w h2.1 h2.2 (by omega))
  have b0 := pick_bd (c := n0) (n := 5) (by omega)
  have b1 := pick_bd (c := n1) (n := 4) (by omega)
  have b2 := pick_bd (c := n2) (n := 4) (by omega)
  obtain ⟨k, hk⟩ : ∃ k, pickI n0 5 = k := ⟨_, rfl⟩
  obtain ⟨p, hp⟩ : ∃ p, pickI n1 4 = p := ⟨_, rfl⟩
  obtain ⟨c, hc⟩ : ∃ c, pickI n2 4 = c := ⟨_, rfl⟩
  rw [hk] at b0 C0 ⊢
  rw [hp] at b1 C1 ⊢
  rw [hc] at b2 C2 ⊢
  clear hk hp hc h0 h1 h2
  have e0 : IntKind.i64.wrap (1 + k) = 1 + k := w64 (by omega) (by omega)
  have e1 : IntKind.i64.wrap (1 + p) = 1 + p := w64 (by omega) (by omega)
  have e2 : IntKind.i64.wrap (1 + c) = 1 + c := w64 (by omega) (by omega)
  go_enter Tryd.func6, Tryd.ntmps6
  go_wp2
  generalize hW : (World.alloc (World.alloc w _) _) = W
  have z1 : W.heap[w.heap.size]? = some (.cells #[.int .i64 n0, .int .i64 n1, .int .i64 n2] 22) := by rw [← hW]; exact blk_alloc' (World.alloc_heap_new w _)
  have z2 : W.heap[w.heap.size + 1]? = some (.cells #[.int .i64 0, .int .i64 0, .int .i64 0] 24 (0, 0)) := by rw [← hW]; exact alloc_at _ _ (by simp)
  have hB : Below w.heap.size w W := by rw [← hW]; exact (by repeat (first | exact Below.refl _ _ | assumption | refine Below.drew ?_ | refine Below.alloc ?_ (by first | omega | (simp; omega) | (simp; done)) _ | refine Below.setCell ?_ (by first | omega | (simp; omega) | (simp; done)) _))
  clear hW
  have y3 := blk_cell z2 (i := 0) (v := .int .i64 0) rfl
  have y4 := blk_cell z2 (i := 1) (v := .int .i64 0) rfl
  have y5 := blk_cell z2 (i := 2) (v := .int .i64 0) rfl
  have f3 := blk_frozen z2 (i := 0)
  have f4 := blk_frozen z2 (i := 1)
  have f5 := blk_frozen z2 (i := 2)
  refine bxh_start (S := fun W => W.cell? ⟨w.heap.size, 0, none⟩ = some (.int .i64 n0) ∧ W.cell? ⟨w.heap.size, 1, none⟩ = some (.int .i64 n1) ∧ W.cell? ⟨w.heap.size, 2, none⟩ = some (.int .i64 n2) ∧ True ∧ True ∧ True) (by kernel_rfl) ?_
  have hS : (fun W : World => W.cell? ⟨w.heap.size, 0, none⟩ = some (.int .i64 n0) ∧ W.cell? ⟨w.heap.size, 1, none⟩ = some (.int .i64 n1) ∧ W.cell? ⟨w.heap.size, 2, none⟩ = some (.int .i64 n2) ∧ True ∧ True ∧ True) W.drew := ⟨blk_cell z1 rfl, blk_cell z1 rfl, blk_cell z1 rfl, trivial, trivial, trivial⟩
  have HS := Lib.hid hS
  refine bxh_take (i := 0) (v := ?_) rfl (by kernel_rfl) (by kernel_rfl) (by kernel_rfl) (fun _ _ _ h => h) (Or.inl ⟨by kernel_rfl, ?_⟩) (by assumption) ?_; rotate_left; (intro w hSw; obtain ⟨q0, q1, q2, q3, q4, q5⟩ := hSw; go_simp <;> with_reducible rfl); (simp only [Act.put, List.getElem_toArray, List.getElem_cons_zero, List.getElem_cons_succ, List.setIfInBounds_toArray, List.set_cons_zero, List.set_cons_succ])
  refine bxh_take (i := 1) (v := ?_) rfl (by kernel_rfl) (by kernel_rfl) (by kernel_rfl) (fun _ _ _ h => h) (Or.inl ⟨by kernel_rfl, ?_⟩) (by assumption) ?_; rotate_left; (intro w hSw; obtain ⟨q0, q1, q2, q3, q4, q5⟩ := hSw; go_simp <;> with_reducible rfl); (simp only [Act.put, List.getElem_toArray, List.getElem_cons_zero, List.getElem_cons_succ, List.setIfInBounds_toArray, List.set_cons_zero, List.set_cons_succ])
  refine bxh_take (i := 4) (v := ?_) rfl (by kernel_rfl) (by kernel_rfl) (by kernel_rfl) (fun _ _ _ h => h) (Or.inl ⟨by kernel_rfl, ?_⟩) (by assumption) ?_; rotate_left; (intro w hSw; obtain ⟨q0, q1, q2, q3, q4, q5⟩ := hSw; go_simp <;> with_reducible rfl); (simp only [Act.put, List.getElem_toArray, List.getElem_cons_zero, List.getElem_cons_succ, List.setIfInBounds_toArray, List.set_cons_zero, List.set_cons_succ])
  refine bxh_take (i := 5) (v := ?_) rfl (by kernel_rfl) (by kernel_rfl) (by kernel_rfl) (fun _ _ _ h => h) (Or.inl ⟨by kernel_rfl, ?_⟩) (by assumption) ?_; rotate_left; (intro w hSw; obtain ⟨q0, q1, q2, q3, q4, q5⟩ := hSw; go_simp <;> with_reducible rfl); (simp only [Act.put, List.getElem_toArray, List.getElem_cons_zero, List.getElem_cons_succ, List.setIfInBounds_toArray, List.set_cons_zero, List.set_cons_succ])
  refine bxh_take (i := 8) (v := ?_) rfl (by kernel_rfl) (by kernel_rfl) (by kernel_rfl) (fun _ _ _ h => h) (Or.inl ⟨by kernel_rfl, ?_⟩) (by assumption) ?_; rotate_left; (intro w hSw; obtain ⟨q0, q1, q2, q3, q4, q5⟩ := hSw; go_simp <;> with_reducible rfl); (simp only [Act.put, List.getElem_toArray, List.getElem_cons_zero, List.getElem_cons_succ, List.setIfInBounds_toArray, List.set_cons_zero, List.set_cons_succ])
  refine bxh_take (i := 9) (v := ?_) rfl (by kernel_rfl) (by kernel_rfl) (by kernel_rfl) (fun _ _ _ h => h) (Or.inl ⟨by kernel_rfl, ?_⟩) (by assumption) ?_; rotate_left; (intro w hSw; obtain ⟨q0, q1, q2, q3, q4, q5⟩ := hSw; go_simp <;> with_reducible rfl); (simp only [Act.put, List.getElem_toArray, List.getElem_cons_zero, List.getElem_cons_succ, List.setIfInBounds_toArray, List.set_cons_zero, List.set_cons_succ])
  refine bxh_next (i := 2) (by kernel_rfl) rfl (fun K hK => ?_)
  go_simp
  refine (C0.out _).mono ?_
  rintro e w' ⟨rfl, rfl⟩
  refine hK.out _ _ HS.out (fun hS => ?_)
  clear hK K
  refine bxh_take (i := 3) (v := ?_) rfl (by kernel_rfl) (by kernel_rfl) (by kernel_rfl) (fun _ _ _ h => h) (Or.inl ⟨by kernel_rfl, ?_⟩) (by assumption) ?_; rotate_left; (intro w hSw; obtain ⟨q0, q1, q2, q3, q4, q5⟩ := hSw; go_simp <;> with_reducible rfl); (simp only [Act.put, List.getElem_toArray, List.getElem_cons_zero, List.getElem_cons_succ, List.setIfInBounds_toArray, List.set_cons_zero, List.set_cons_succ])
  refine bxh_next (i := 6) (by kernel_rfl) rfl (fun K hK => ?_)
  go_simp
  refine (C1.out _).mono ?_
  rintro e w' ⟨rfl, rfl⟩
  refine hK.out _ _ HS.out (fun hS => ?_)
  clear hK K
  refine bxh_take (i := 7) (v := ?_) rfl (by kernel_rfl) (by kernel_rfl) (by kernel_rfl) (fun _ _ _ h => h) (Or.inl ⟨by kernel_rfl, ?_⟩) (by assumption) ?_; rotate_left; (intro w hSw; obtain ⟨q0, q1, q2, q3, q4, q5⟩ := hSw; go_simp <;> with_reducible rfl); (simp only [Act.put, List.getElem_toArray, List.getElem_cons_zero, List.getElem_cons_succ, List.setIfInBounds_toArray, List.set_cons_zero, List.set_cons_succ])
  refine bxh_next (i := 10) (by kernel_rfl) rfl (fun K hK => ?_)
  go_simp
  refine (C2.out _).mono ?_
  rintro e w' ⟨rfl, rfl⟩
  refine hK.out _ _ HS.out (fun hS => ?_)
  clear hK K
  refine bxh_take (i := 11) (v := ?_) rfl (by kernel_rfl) (by kernel_rfl) (by kernel_rfl) (fun _ _ _ h => h) (Or.inl ⟨by kernel_rfl, ?_⟩) (by assumption) ?_; rotate_left; (intro w hSw; obtain ⟨q0, q1, q2, q3, q4, q5⟩ := hSw; go_simp <;> with_reducible rfl); (simp only [Act.put, List.getElem_toArray, List.getElem_cons_zero, List.getElem_cons_succ, List.setIfInBounds_toArray, List.set_cons_zero, List.set_cons_succ])
  refine bxh_take (i := 12) (v := ?_) rfl (by kernel_rfl) (by kernel_rfl) (by kernel_rfl) (fun _ _ _ h => h) (Or.inl ⟨by kernel_rfl, ?_⟩) (by assumption) ?_; rotate_left; (intro w hSw; obtain ⟨q0, q1, q2, q3, q4, q5⟩ := hSw; go_simp <;> with_reducible rfl); (simp only [Act.put, List.getElem_toArray, List.getElem_cons_zero, List.getElem_cons_succ, List.setIfInBounds_toArray, List.set_cons_zero, List.set_cons_succ])
  refine bxh_next (i := 13) (by kernel_rfl) rfl (fun K hK => ?_)
  go_simp
  have q1 := blk_far (b' := w.heap.size + 1) (i := 2) (blk_far (b' := w.heap.size + 1) (i := 1) (blk_far (b' := w.heap.size + 1) (i := 0) z1 (by omega) (.int .i64 (1 + k))) (by omega) (.int .i64 (1 + p))) (by omega) (.int .i64 (1 + c))
  have q2 := blk_set (i := 2) (blk_set (i := 1) (blk_set (i := 0) z2 (.int .i64 (1 + k))) (.int .i64 (1 + p))) (.int .i64 (1 + c))
  have hBf := ((hB.setCell (p := ⟨w.heap.size + 1, 0, none⟩) (by simp) (.int .i64 (1 + k))).setCell (p := ⟨w.heap.size + 1, 1, none⟩) (by simp) (.int .i64 (1 + p))).setCell (p := ⟨w.heap.size + 1, 2, none⟩) (by simp) (.int .i64 (1 + c))
  refine hK.out _ _ ⟨blk_cell q1 rfl, blk_cell q1 rfl, blk_cell q1 rfl, trivial, trivial, trivial⟩ (fun hS => ?_)
  have r0 := blk_cell q2 (i := 0) (v := .int .i64 (1 + k)) rfl
  have r1 := blk_cell q2 (i := 1) (v := .int .i64 (1 + p)) rfl
  have r2 := blk_cell q2 (i := 2) (v := .int .i64 (1 + c)) rfl
  clear hK K hS q1 y3 y4 y5 f3 f4 f5
  refine bxh_done (by kernel_rfl) ?_ _
  go_wp2
  refine ⟨rfl, conf (1 + k) (1 + p) (1 + c), by simp [results, Tryd.f6, go_sem, r0, r1, r2], rfl, hBf.drew⟩

end Go.Proofs.YthigfjelgbdcfaaDoor

/-! The law's With. -/
namespace Go.Proofs.YthigfjelgbdcfaaDoor
open Go.RowKit Go.Maps

/-- memory, the first n words of a log set -/
def withTo (ms : List (Int × Int)) (f : Nat) (ws : List Int) : Nat → List (Int × Int)
  | 0 => ms
  | n + 1 => (withTo ms f ws n).set (f + n) (ws.getD n 0, ((withTo ms f ws n).getD (f + n) (0, 0)).2)
theorem withTo_len (ms : List (Int × Int)) (f : Nat) (ws : List Int) : ∀ n, (withTo ms f ws n).length = ms.length
  | 0 => rfl
  | n + 1 => by rw [withTo, List.length_set, withTo_len ms f ws n]
theorem withTo_ok {ms : List (Int × Int)} {f : Nat} {ws : List Int} (h : MemOk ms) (hw : WordsOk ws) : ∀ n, MemOk (withTo ms f ws n)
  | 0 => h
  | n + 1 => by
    intro x hx
    rcases List.mem_or_eq_of_mem_set hx with h1 | h1
    · exact withTo_ok h hw n x h1
    · rw [h1]; exact hw.getD n
theorem cls_setW : ∀ (l : List (Int × Int)) (j : Nat) (x : Int), (cls l).set (2 * j) (.int .u64 x) = cls (l.set j (x, (l.getD j (0, 0)).2))
  | [], j, x => by simp [cls]
  | y :: r, 0, x => by simp [cls]
  | y :: r, j + 1, x => by
    rw [List.set_cons_succ, cls, show 2 * (j + 1) = 2 * j + 1 + 1 by omega]
    simp only [List.set_cons_succ]
    rw [cls_setW r j x]
    simp [cls]

set_option linter.unusedSimpArgs false in
set_option maxRecDepth 100000 in
set_option maxHeartbeats 4000000 in
theorem lWith (k p c q : Int) (a : Option Addr) (cap : Nat) (ms : List (Int × Int)) (N f Ln M : Nat) (wv : Value) (ws : List Int) (w : World) (h : Fit k p c) (q0 : 0 ≤ q) (q1 : q < p) (hL : logN k p c = Ln) (hL1 : 1 ≤ Ln) (hf : atN k p c 3 q = f) (hfl : f + Ln ≤ N) (hms : ms.length = N) (hN : N ≤ 1000000) (hs : Sl w (.slice a N cap) N (cls ms)) (hM : ws.length = M) (hMl : M ≤ 1000000) (hw : Sl w wv M (u64s ws)) :
    Calls Tryd.prog 20 #[conf k p c, .agg #[.slice a N cap], .int .i64 q, wv] w fun e w' => (∃ v, e = .returned (.agg #[v]) ∧ w'.ownsRow w.heap.size 68 2 v N (cls (withTo ms f ws (min M Ln)))) ∧ Below w.heap.size w w' := by
  obtain ⟨wa, wc, rfl, hw⟩ := hw
  have HW := Lib.hid hw
  have HMw := Lib.hid hM
  have HM := Lib.hid hms
  have hLm : Ln ≤ 2117 := by have := logN_bd k p c; omega
  have CA : Hid (∀ w1, Calls Tryd.prog 31 #[conf k p c, .int .i64 3, .int .i64 q] w1 fun e w' => e = .returned (.tuple #[.int .i64 (f : Int), .int .i64 0]) ∧ Below w1.heap.size w1 w') := Lib.hid (fun w1 => hf ▸ fAt_ok k p c 3 q w1 h (by omega) (by omega) q0 q1)
  have CL : Hid (∀ w1, Calls Tryd.prog 35 #[conf k p c] w1 fun e w' => e = .returned (.int .i64 (Ln : Int)) ∧ Below w1.heap.size w1 w') := Lib.hid (fun w1 => hL ▸ fLogSize k p c w1)
  have CO : Hid (∀ w1, Below w.heap.size w w1 → Calls Tryd.prog 46 #[.agg #[.slice a N cap]] w1 fun e w' => ∃ v, e = .returned (.agg #[v]) ∧ w'.ownsRow w1.heap.size 68 2 v N (cls ms) ∧ Below w1.heap.size w1 w') := Lib.hid (fun w1 hb => fOwn _ ms N w1 hms (hs.below hb) hN)
  clear h hs hms hL hf q0 q1 hw hM
  go_enter Tryd.func20, Tryd.ntmps20
  go_wp2_with (first | (go_at_call 46; refine (CO.out _ (mw_start w k p c a N cap).1.1.1).mono ?_; rintro e wo ⟨v, rfl, hv, hbo⟩; obtain ⟨g, cp, rfl, hgb, hgl⟩ := World.ownsRow.form hv (by omega); have T2 := Lib.hid (mw_call (mw_start w k p c a N cap) hbo); have HV := Lib.hid hv; obtain ⟨c0, c1, c2, m0, hzo⟩ := mm_cells T2.out.1; have hzo1 : w.heap.size < wo.heap.size := (by omega); clear hbo hv) | (go_at_call 31; refine (CA.out _).mono ?_; rintro e wa' ⟨rfl, hba⟩; have HBA := Lib.hid hba; clear hba))
  have HB2 := Lib.hid (show wa'.heap[wo.heap.size]? = some (memBox (some ⟨g, 0, none⟩) N cp) from (HBA.out.block _ (by simp)).trans (World.alloc_heap_new wo _))
  have T3 := Lib.hid (mw_call (mw_call T2.out (blk_alloc wo (memBox (some ⟨g, 0, none⟩) N cp))) HBA.out)
  have HV3 := Lib.hid (owns_below (HV.out.alloc (memBox (some ⟨g, 0, none⟩) N cp)) HBA.out)
  simp only [World.size_alloc] at hgb
  have hg2 : w.heap.size + 1 + 1 < g := by omega
  obtain ⟨g9, hg9⟩ : ∃ g9, wo.heap.size = g9 := ⟨_, rfl⟩
  have hgg : g < g9 := by omega
  rw [hg9] at HB2 ⊢
  clear HV T2 c0 c1 c2 m0
  go_loopw [12] (fun i wr => ∃ n : Nat, n ≤ Ln ∧ n ≤ M ∧ i = .int .i64 n ∧ Hid (wr.heap[g9]? = some (memBox (some ⟨g, 0, none⟩) N cp)) ∧ Hid (wr.ownsRow (w.heap.size + 1 + 1) 68 2 (.slice (some ⟨g, 0, none⟩) N cp) N (cls (withTo ms f ws n))) ∧ Hid (Mw w wr k p c a N cap)) (fun i _ => Ln - (intOf i).toNat)
  case atStart => exact ⟨0, by omega, by omega, rfl, HB2, Lib.hid (owns_base HV3.out (by simp)), T3⟩
  case round =>
    obtain ⟨n, hn, hnM, rfl, hbx, how, h1⟩ := hrel
    clear HB2 HV3 T3 HBA
    obtain ⟨c0, c1, c2, m0, hz⟩ := mm_cells h1.out.1
    by_cases hM : n < M
    · have hMb : decide (n < M) = true := decide_eq_true hM
      by_cases hlt : n < Ln
      · obtain ⟨bw, ow, rfl, k1⟩ := Sl.at HW.out (by omega)
        obtain ⟨x, hx⟩ : ∃ x, ws[n]? = some x := ⟨_, List.getElem?_eq_getElem (by rw [HMw.out]; exact hM)⟩
        have K1 := Lib.hid (show ∀ W, Below w.heap.size w W → W.cell? ⟨bw, ow + n, none⟩ = some (.int .u64 x) from fun W hB => k1 W hB n _ (by simp [hx]))
        have HX := Lib.hid (show x = ws.getD n 0 by simp [List.getD, hx])
        clear k1 hx
        have t0 : ((f : Int) + (n : Int)).toNat = f + n := by omega
        have l0 : (0 : Int) ≤ (f : Int) + (n : Int) := by omega
        have l1 : (f : Int) + (n : Int) < N := by omega
        have l2 : (0 : Int) ≤ (n : Int) := by omega
        have l3 : (n : Int) < (M : Int) := by omega
        have r0 : IntKind.i64.wrap ((f : Int) + (n : Int)) = f + n := w64 (by omega) (by omega)
        go_wp2_with (first | (go_at_call 35; refine (CL.out _).mono ?_; rintro e w3 ⟨rfl, hbc⟩; have T4 := Lib.hid (mw_call h1.out hbc); have hb3 := (hbc.block _ (Array.getElem?_eq_some_iff.1 hbx.out).1).trans hbx.out; have HB3 := Lib.hid hb3; have HO3 := Lib.hid (owns_below how.out hbc); have d1 := K1.out w3 T4.out.1.1.1; clear hbc hb3))
        obtain ⟨⟨u1, o1⟩, p1, _, hg3⟩ := owns_cell (j := (f + n) * 2) HO3.out (by omega)
        have hzw : w.heap.size < w3.heap.size := (Array.getElem?_eq_some_iff.1 T4.out.1.1.2).1
        refine bxh_start (S := fun W => W.cell? ⟨g9, 0, none⟩ = some (.slice (some ⟨g, 0, none⟩) N cp) ∧ W.cell? ⟨bw, ow + n, none⟩ = some (.int .u64 x) ∧ True ∧ True ∧ True ∧ True) (by kernel_rfl) ?_
        have hS : (fun W : World => W.cell? ⟨g9, 0, none⟩ = some (.slice (some ⟨g, 0, none⟩) N cp) ∧ W.cell? ⟨bw, ow + n, none⟩ = some (.int .u64 x) ∧ True ∧ True ∧ True ∧ True) w3.drew := ⟨blk_cell HB3.out rfl, d1, trivial, trivial, trivial, trivial⟩
        refine bxh_take (i := 0) (v := ?_) rfl (by kernel_rfl) (by kernel_rfl) (by kernel_rfl) (fun _ _ _ h => h) (Or.inl ⟨by kernel_rfl, ?_⟩) (by assumption) ?_; rotate_left; (intro w hSw; obtain ⟨q0, q1, q2, q3, q4, q5⟩ := hSw; go_simp <;> with_reducible rfl); (simp only [Act.put, List.getElem_toArray, List.getElem_cons_zero, List.getElem_cons_succ, List.setIfInBounds_toArray, List.set_cons_zero, List.set_cons_succ])
        refine bxh_take (i := 1) (v := ?_) rfl (by kernel_rfl) (by kernel_rfl) (by kernel_rfl) (fun _ _ _ h => h) (Or.inl ⟨by kernel_rfl, ?_⟩) (by assumption) ?_; rotate_left; (intro w hSw; obtain ⟨q0, q1, q2, q3, q4, q5⟩ := hSw; go_simp <;> with_reducible rfl); (simp only [Act.put, List.getElem_toArray, List.getElem_cons_zero, List.getElem_cons_succ, List.setIfInBounds_toArray, List.set_cons_zero, List.set_cons_succ])
        refine bxh_take (i := 2) (v := ?_) rfl (by kernel_rfl) (by kernel_rfl) (by kernel_rfl) (fun _ _ _ h => h) (Or.inl ⟨by kernel_rfl, ?_⟩) (by assumption) ?_; rotate_left; (intro w hSw; obtain ⟨q0, q1, q2, q3, q4, q5⟩ := hSw; go_simp <;> with_reducible rfl); (simp only [Act.put, List.getElem_toArray, List.getElem_cons_zero, List.getElem_cons_succ, List.setIfInBounds_toArray, List.set_cons_zero, List.set_cons_succ])
        refine bxh_take (i := 3) (v := ?_) rfl (by kernel_rfl) (by kernel_rfl) (by kernel_rfl) (fun _ _ _ h => h) (Or.inl ⟨by kernel_rfl, ?_⟩) (by assumption) ?_; rotate_left; (intro w hSw; obtain ⟨q0, q1, q2, q3, q4, q5⟩ := hSw; go_simp <;> with_reducible rfl); (simp only [Act.put, List.getElem_toArray, List.getElem_cons_zero, List.getElem_cons_succ, List.setIfInBounds_toArray, List.set_cons_zero, List.set_cons_succ])
        refine bxh_take (i := 4) (v := ?_) rfl (by kernel_rfl) (by kernel_rfl) (by kernel_rfl) (fun _ _ _ h => h) (Or.inl ⟨by kernel_rfl, ?_⟩) (by assumption) ?_; rotate_left; (intro w hSw; obtain ⟨q0, q1, q2, q3, q4, q5⟩ := hSw; go_simp <;> with_reducible rfl); (simp only [Act.put, List.getElem_toArray, List.getElem_cons_zero, List.getElem_cons_succ, List.setIfInBounds_toArray, List.set_cons_zero, List.set_cons_succ])
        refine bxh_take (i := 5) (v := ?_) rfl (by kernel_rfl) (by kernel_rfl) (by kernel_rfl) (fun _ _ _ h => h) (Or.inl ⟨by kernel_rfl, ?_⟩) (by assumption) ?_; rotate_left; (intro w hSw; obtain ⟨q0, q1, q2, q3, q4, q5⟩ := hSw; go_simp <;> with_reducible rfl); (simp only [Act.put, List.getElem_toArray, List.getElem_cons_zero, List.getElem_cons_succ, List.setIfInBounds_toArray, List.set_cons_zero, List.set_cons_succ])
        refine bxh_take (i := 6) (v := ?_) rfl (by kernel_rfl) (by kernel_rfl) (by kernel_rfl) (fun _ _ _ h => h) (Or.inl ⟨by kernel_rfl, ?_⟩) (by assumption) ?_; rotate_left; (intro w hSw; obtain ⟨q0, q1, q2, q3, q4, q5⟩ := hSw; go_simp <;> with_reducible rfl); (simp only [Act.put, List.getElem_toArray, List.getElem_cons_zero, List.getElem_cons_succ, List.setIfInBounds_toArray, List.set_cons_zero, List.set_cons_succ])
        refine bxh_take (i := 7) (v := ?_) rfl (by kernel_rfl) (by kernel_rfl) (by kernel_rfl) (fun _ _ _ h => h) (Or.inl ⟨by kernel_rfl, ?_⟩) (by assumption) ?_; rotate_left; (intro w hSw; obtain ⟨q0, q1, q2, q3, q4, q5⟩ := hSw; go_simp <;> with_reducible rfl); (simp only [Act.put, List.getElem_toArray, List.getElem_cons_zero, List.getElem_cons_succ, List.setIfInBounds_toArray, List.set_cons_zero, List.set_cons_succ])
        refine bxh_take (i := 8) (v := ?_) rfl (by kernel_rfl) (by kernel_rfl) (by kernel_rfl) (fun _ _ _ h => h) (Or.inl ⟨by kernel_rfl, ?_⟩) (by assumption) ?_; rotate_left; (intro w hSw; obtain ⟨q0, q1, q2, q3, q4, q5⟩ := hSw; go_simp <;> with_reducible rfl); (simp only [Act.put, List.getElem_toArray, List.getElem_cons_zero, List.getElem_cons_succ, List.setIfInBounds_toArray, List.set_cons_zero, List.set_cons_succ])
        refine bxh_take (i := 9) (v := ?_) rfl (by kernel_rfl) (by kernel_rfl) (by kernel_rfl) (fun _ _ _ h => h) (Or.inl ⟨by kernel_rfl, ?_⟩) (by assumption) ?_; rotate_left; (intro w hSw; obtain ⟨q0, q1, q2, q3, q4, q5⟩ := hSw; go_simp <;> with_reducible rfl); (simp only [Act.put, List.getElem_toArray, List.getElem_cons_zero, List.getElem_cons_succ, List.setIfInBounds_toArray, List.set_cons_zero, List.set_cons_succ])
        refine bxh_take (i := 10) (v := ?_) rfl (by kernel_rfl) (by kernel_rfl) (by kernel_rfl) (fun _ _ _ h => h) (Or.inl ⟨by kernel_rfl, ?_⟩) (by assumption) ?_; rotate_left; (intro w hSw; obtain ⟨q0, q1, q2, q3, q4, q5⟩ := hSw; go_simp <;> with_reducible rfl); (simp only [Act.put, List.getElem_toArray, List.getElem_cons_zero, List.getElem_cons_succ, List.setIfInBounds_toArray, List.set_cons_zero, List.set_cons_succ])
        refine bxh_next (i := 11) (by kernel_rfl) rfl (fun K hK => ?_)
        go_simp
        have b1 := blk_far (b' := g) (i := (f + n) * 2) HB3.out (by omega) (.int .u64 x)
        have b2 := owns_put (u := .int .u64 x) (j := (f + n) * 2) HO3.out (by omega)
        have b3 := mw_set (g := g) (i := (f + n) * 2) T4.out hg2 (.int .u64 x)
        have b4 := K1.out _ b3.1.1.1
        refine hK.out _ _ ⟨blk_cell b1 rfl, b4, trivial, trivial, trivial, trivial⟩ (fun hS => ?_)
        have B1 := Lib.hid b1
        have B2 := Lib.hid (show World.ownsRow (World.drew _) (w.heap.size + 1 + 1) 68 2 (.slice (some ⟨g, 0, none⟩) N cp) N (cls (withTo ms f ws (n + 1))) from by rw [withTo, ← HX.out, ← cls_setW, Nat.mul_comm 2]; exact owns_below b2 (Below.refl _ _).drew)
        have B3 := Lib.hid (mw_call b3 (Below.refl _ _).drew)
        clear hK K hS b1 b2 b3 b4
        refine bxh_done (by kernel_rfl) ?_ _
        go_wp2
        go_roundw
        case rel => exact ⟨n + 1, by omega, by omega, by go_num, B1, B2, B3⟩
        case measure => simp [intOf]; omega
      · obtain rfl : n = Ln := by omega
        have y9 := blk_cell hbx.out (i := 0) (v := .slice (some ⟨g, 0, none⟩) N cp) rfl
        go_wp2_with (first | (go_at_call 35; refine (CL.out _).mono ?_; rintro e w3 ⟨rfl, hbc⟩; have T4 := Lib.hid (mw_call h1.out hbc); have hb3 := (hbc.block _ (Array.getElem?_eq_some_iff.1 hbx.out).1).trans hbx.out; have y9 := blk_cell hb3 (i := 0) (v := .slice (some ⟨g, 0, none⟩) N cp) rfl; have y2 := blk_cell T4.out.2 (i := 0) (v := .slice none 0 0) rfl; have f2 := blk_frozen T4.out.2 (i := 0); have HO3 := Lib.hid (owns_below how.out hbc); clear hbc))
        have y3 := blk_cell (blk_set (i := 0) T4.out.2 (.slice (some ⟨g, 0, none⟩) N cp)) (i := 0) (v := .slice (some ⟨g, 0, none⟩) N cp) rfl
        exact ⟨rfl, .agg #[.slice (some ⟨g, 0, none⟩) N cp], by simp [results, Tryd.f20, go_sem, y3], ⟨_, rfl, owns_base (owns_set (Nat.min_eq_right hnM ▸ HO3.out) T4.out.2 (by decide) _ _) (by omega)⟩, T4.out.1.1.1.setCell (p := ⟨w.heap.size + 1 + 1, 0, none⟩) (by simp; omega) _⟩
    · obtain rfl : n = M := by omega
      have hMb : decide (n < n) = false := decide_eq_false (by omega)
      have y9 := blk_cell hbx.out (i := 0) (v := .slice (some ⟨g, 0, none⟩) N cp) rfl
      have y2 := blk_cell h1.out.2 (i := 0) (v := .slice none 0 0) rfl
      have f2 := blk_frozen h1.out.2 (i := 0)
      go_wp2
      have y3 := blk_cell (blk_set (i := 0) h1.out.2 (.slice (some ⟨g, 0, none⟩) N cp)) (i := 0) (v := .slice (some ⟨g, 0, none⟩) N cp) rfl
      exact ⟨rfl, .agg #[.slice (some ⟨g, 0, none⟩) N cp], by simp [results, Tryd.f20, go_sem, y3], ⟨_, rfl, owns_base (owns_set (Nat.min_eq_left hn ▸ how.out) h1.out.2 (by decide) _ _) (by omega)⟩, h1.out.1.1.1.setCell (p := ⟨w.heap.size + 1 + 1, 0, none⟩) (by simp; omega) _⟩

end Go.Proofs.YthigfjelgbdcfaaDoor
