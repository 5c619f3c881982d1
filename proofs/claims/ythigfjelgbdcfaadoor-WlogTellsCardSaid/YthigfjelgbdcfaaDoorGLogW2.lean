/- The contracts of wlog's log and of its iterator, and the conditions of Wipe. -/
import Derived.Test.YthigfjelgbdcfaaDoorGMay
import Derived.Test.YthigfjelgbdcfaaDoorGStill

set_option linter.unusedSimpArgs false
set_option linter.unusedVariables false

namespace Go.Proofs.YthigfjelgbdcfaaDoor
open Go.RowKit Go.Maps

set_option linter.unusedSimpArgs false in
set_option maxHeartbeats 2000000 in
theorem wLog_at (k p c q : Int) (bm : Nat) (w : World) (h : Fit k p c) (hq : q < 0 ∨ p ≤ q) : Calls Tryd.prog 48 #[conf k p c, .pointer (some ⟨bm, 0, none⟩), .int .i64 q] w fun e w' => e = .panicked (oddCh 1) ∧ Below w.heap.size w w' := by
  have hF := fitsB_yes h
  have CA : Hid (∀ w1, Calls Tryd.prog 27 #[conf k p c, .int .i64 3, .int .i64 q] w1 fun e w' => e = .returned (.tuple #[.int .i64 0, .int .i64 1]) ∧ Below w1.heap.size w1 w') := Lib.hid (fun w1 => rAt_arg k p c 3 q w1 h (by omega))
  clear h hq
  go_enter Tryd.func48, Tryd.ntmps48
  go_wp2_with (first | (go_at_call 41; refine (rFits _ _ _ _).mono ?_; rintro e w1 ⟨rfl, hbc⟩; have T1 := lg_call (lg_start _ _ _ _ _) hbc; obtain ⟨c0, c1, c2, m0, hz, hz'⟩ := lg_cells T1; clear hbc) | (go_at_call_of 40 (Value.bool true); refine (want_yes _ _).mono ?_; rintro e w' ⟨rfl, rfl⟩) | (go_at_call_of 40 (Value.bool false); refine (want_no _ _).mono ?_; rintro e w' ⟨rfl, rfl⟩) | (go_at_call 27; refine (CA.out _).mono ?_; rintro e w2 ⟨rfl, hbc⟩; have T2 := lg_call T1 hbc; obtain ⟨c0, c1, c2, m0, hz, hz'⟩ := lg_cells T2; clear hbc))
  refine wp_region_still_tail 12 (by kernel_rfl) (by kernel_rfl) ?_
  change wpStill _ _ (World.drew _) _ _ _
  simp only [List.take_succ_cons, List.take_zero, List.drop_succ_cons, List.drop_zero]
  refine bx_start ?_
  iterate 3 (refine bx_step (fun K hK => ?_); go_simp; refine hK _ ?_; clear hK K)
  iterate 8 (refine bx_skip (by kernel_rfl) ?_; simp only [Act.put, List.setIfInBounds_toArray, List.set_cons_zero, List.set_cons_succ])
  (refine bx_step (fun K hK => ?_); go_simp; refine hK _ ?_; clear hK K)
  refine bx_nil ?_
  change wpList _ _ _ _ _ (World.drew _)
  go_wp2_with (first | (go_at_call_of 40 (Value.bool true); refine (want_yes _ _).mono ?_; rintro e w' ⟨rfl, rfl⟩) | (go_at_call_of 40 (Value.bool false); refine (want_no _ _).mono ?_; rintro e w' ⟨rfl, rfl⟩))
  exact ⟨rfl, rfl, (T2.1.1.alloc (by omega) _).drew⟩

/-- the boxes of 'log' behind At: the three boxes, and memory -/
def Lh (w W : World) (k p c : Int) (bm bf : Nat) (f : Int) (a : Option Addr) (n cap : Nat) : Prop := Lg w W k p c bm ∧ W.heap[bf]? = some (.cells #[.int .i64 f] 3 (0, 0)) ∧ W.heap[bm]? = some (memBox a n cap)
theorem lh_call {w W W' : World} {k p c : Int} {bm bf : Nat} {f : Int} {a : Option Addr} {n cap : Nat} (h : Lh w W k p c bm bf f a n cap) (hb : Below W.heap.size W W') : Lh w W' k p c bm bf f a n cap :=
  ⟨lg_call h.1 hb, (hb.block _ (Array.getElem?_eq_some_iff.1 h.2.1).1).trans h.2.1, (hb.block _ (Array.getElem?_eq_some_iff.1 h.2.2).1).trans h.2.2⟩
theorem lh_cells {w W : World} {k p c : Int} {bm bf : Nat} {f : Int} {a : Option Addr} {n cap : Nat} (h : Lh w W k p c bm bf f a n cap) :
    W.cell? ⟨w.heap.size, 0, none⟩ = some (.int .i64 k) ∧ W.cell? ⟨w.heap.size, 1, none⟩ = some (.int .i64 p) ∧ W.cell? ⟨w.heap.size, 2, none⟩ = some (.int .i64 c) ∧
    W.cell? ⟨w.heap.size + 1, 0, none⟩ = some (.pointer (some ⟨bm, 0, none⟩)) ∧ W.cell? ⟨bm, 0, none⟩ = some (.slice a n cap) :=
  ⟨blk_cell h.1.1.2 rfl, blk_cell h.1.1.2 rfl, blk_cell h.1.1.2 rfl, blk_cell h.1.2 rfl, blk_cell h.2.2 rfl⟩
theorem lh_drew {w W : World} {k p c : Int} {bm bf : Nat} {f : Int} {a : Option Addr} {n cap : Nat} (h : Lh w W k p c bm bf f a n cap) : Lh w W.drew k p c bm bf f a n cap := lh_call h (Below.refl _ _).drew

set_option linter.unusedSimpArgs false in
set_option maxHeartbeats 2000000 in
theorem wLog_size (k p c q : Int) (bm : Nat) (a : Option Addr) (n cap : Nat) (w : World) (ho : Objs w) (hm : w.heap[bm]? = some (memBox a n cap)) (h : Fit k p c) (q0 : 0 ≤ q) (q1 : q < p) (hn : (n : Int) ≠ sizeN k p c) : Calls Tryd.prog 48 #[conf k p c, .pointer (some ⟨bm, 0, none⟩), .int .i64 q] w fun e w' => e = .panicked (oddCh 1) ∧ Below w.heap.size w w' := by
  have hF := fitsB_yes h
  have hbm := (Array.getElem?_eq_some_iff.1 hm).1
  have CA : Hid (∀ w1, Below w.heap.size w w1 → Calls Tryd.prog 27 #[conf k p c, .int .i64 3, .int .i64 q] w1 fun e w' => e = .returned (.tuple #[.int .i64 (atN k p c 3 q), .int .i64 0]) ∧ Below w1.heap.size w1 w') := Lib.hid (fun w1 hb => rAt_ok k p c 3 q w1 (ho.below hb) h (by omega) (by omega) q0 q1)
  have CS : Hid (∀ w1, Below w.heap.size w w1 → Calls Tryd.prog 36 #[conf k p c] w1 fun e w' => e = .returned (.int .i64 (sizeN k p c)) ∧ Below w1.heap.size w1 w') := Lib.hid (fun w1 hb => rSize k p c w1 (ho.below hb))
  have hne : ((n : Int) == sizeN k p c) = false := by simpa using hn
  clear h q0 q1 ho hn
  go_enter Tryd.func48, Tryd.ntmps48
  go_wp2_with (first | (go_at_call 41; refine (rFits _ _ _ _).mono ?_; rintro e w1 ⟨rfl, hbc⟩; have T1 := lg_call (lg_start _ _ _ _ _) hbc; obtain ⟨c0, c1, c2, m0, hz, hz'⟩ := lg_cells T1; clear hbc) | (go_at_call_of 40 (Value.bool true); refine (want_yes _ _).mono ?_; rintro e w' ⟨rfl, rfl⟩) | (go_at_call_of 40 (Value.bool false); refine (want_no _ _).mono ?_; rintro e w' ⟨rfl, rfl⟩) | (go_at_call 27; refine (CA.out _ T1.1.1).mono ?_; rintro e w2 ⟨rfl, hbc⟩; have T2 := lg_call T1 hbc; obtain ⟨c0, c1, c2, m0, hz, hz'⟩ := lg_cells T2; clear hbc))
  have T3 : Lh w (w2.alloc (.cells #[.int .i64 (atN k p c 3 q)] 3)) k p c bm w2.heap.size (atN k p c 3 q) a n cap := ⟨lg_call T2 (blk_alloc _ _), World.alloc_heap_new w2 _, (T2.1.1.alloc (by omega) _).block _ hbm |>.trans hm⟩
  have T4 := lh_drew T3
  refine bxh_start (S := fun W => W.cell? ⟨w.heap.size, 0, none⟩ = some (.int .i64 k) ∧ W.cell? ⟨w.heap.size, 1, none⟩ = some (.int .i64 p) ∧ W.cell? ⟨w.heap.size, 2, none⟩ = some (.int .i64 c) ∧ W.cell? ⟨w.heap.size + 1, 0, none⟩ = some (.pointer (some ⟨bm, 0, none⟩)) ∧ W.cell? ⟨bm, 0, none⟩ = some (.slice a n cap) ∧ True) (by kernel_rfl) ?_
  have hS := lh_cells T4
  replace hS : (fun W : World => W.cell? ⟨w.heap.size, 0, none⟩ = some (.int .i64 k) ∧ W.cell? ⟨w.heap.size, 1, none⟩ = some (.int .i64 p) ∧ W.cell? ⟨w.heap.size, 2, none⟩ = some (.int .i64 c) ∧ W.cell? ⟨w.heap.size + 1, 0, none⟩ = some (.pointer (some ⟨bm, 0, none⟩)) ∧ W.cell? ⟨bm, 0, none⟩ = some (.slice a n cap) ∧ True) _ := ⟨hS.1, hS.2.1, hS.2.2.1, hS.2.2.2.1, hS.2.2.2.2, trivial⟩
  refine bxh_take (i := 0) (v := ?_) rfl (by kernel_rfl) (by kernel_rfl) (by kernel_rfl) (fun _ _ _ h => h) (Or.inl ⟨by kernel_rfl, ?_⟩) (by assumption) ?_; rotate_left; (intro w hSw; obtain ⟨q0, q1, q2, q3, q4, q5⟩ := hSw; go_simp <;> with_reducible rfl); (simp only [Act.put, List.getElem_toArray, List.getElem_cons_zero, List.getElem_cons_succ, List.setIfInBounds_toArray, List.set_cons_zero, List.set_cons_succ])
  refine bxh_take (i := 1) (v := ?_) rfl (by kernel_rfl) (by kernel_rfl) (by kernel_rfl) (fun _ _ _ h => h) (Or.inl ⟨by kernel_rfl, ?_⟩) (by assumption) ?_; rotate_left; (intro w hSw; obtain ⟨q0, q1, q2, q3, q4, q5⟩ := hSw; go_simp <;> with_reducible rfl); (simp only [Act.put, List.getElem_toArray, List.getElem_cons_zero, List.getElem_cons_succ, List.setIfInBounds_toArray, List.set_cons_zero, List.set_cons_succ])
  refine bxh_take (i := 2) (v := ?_) rfl (by kernel_rfl) (by kernel_rfl) (by kernel_rfl) (fun _ _ _ h => h) (Or.inl ⟨by kernel_rfl, ?_⟩) (by assumption) ?_; rotate_left; (intro w hSw; obtain ⟨q0, q1, q2, q3, q4, q5⟩ := hSw; go_simp <;> with_reducible rfl); (simp only [Act.put, List.getElem_toArray, List.getElem_cons_zero, List.getElem_cons_succ, List.setIfInBounds_toArray, List.set_cons_zero, List.set_cons_succ])
  refine bxh_take (i := 3) (v := ?_) rfl (by kernel_rfl) (by kernel_rfl) (by kernel_rfl) (fun _ _ _ h => h) (Or.inl ⟨by kernel_rfl, ?_⟩) (by assumption) ?_; rotate_left; (intro w hSw; obtain ⟨q0, q1, q2, q3, q4, q5⟩ := hSw; go_simp <;> with_reducible rfl); (simp only [Act.put, List.getElem_toArray, List.getElem_cons_zero, List.getElem_cons_succ, List.setIfInBounds_toArray, List.set_cons_zero, List.set_cons_succ])
  refine bxh_take (i := 4) (v := ?_) rfl (by kernel_rfl) (by kernel_rfl) (by kernel_rfl) (fun _ _ _ h => h) (Or.inl ⟨by kernel_rfl, ?_⟩) (by assumption) ?_; rotate_left; (intro w hSw; obtain ⟨q0, q1, q2, q3, q4, q5⟩ := hSw; go_simp <;> with_reducible rfl); (simp only [Act.put, List.getElem_toArray, List.getElem_cons_zero, List.getElem_cons_succ, List.setIfInBounds_toArray, List.set_cons_zero, List.set_cons_succ])
  refine bxh_take (i := 5) (v := ?_) rfl (by kernel_rfl) (by kernel_rfl) (by kernel_rfl) (fun _ _ _ h => h) (Or.inl ⟨by kernel_rfl, ?_⟩) (by assumption) ?_; rotate_left; (intro w hSw; obtain ⟨q0, q1, q2, q3, q4, q5⟩ := hSw; go_simp <;> with_reducible rfl); (simp only [Act.put, List.getElem_toArray, List.getElem_cons_zero, List.getElem_cons_succ, List.setIfInBounds_toArray, List.set_cons_zero, List.set_cons_succ])
  refine bxh_take (i := 6) (v := ?_) rfl (by kernel_rfl) (by kernel_rfl) (by kernel_rfl) (fun _ _ _ h => h) (Or.inl ⟨by kernel_rfl, ?_⟩) (by assumption) ?_; rotate_left; (intro w hSw; obtain ⟨q0, q1, q2, q3, q4, q5⟩ := hSw; go_simp <;> with_reducible rfl); (simp only [Act.put, List.getElem_toArray, List.getElem_cons_zero, List.getElem_cons_succ, List.setIfInBounds_toArray, List.set_cons_zero, List.set_cons_succ])
  refine bxh_take (i := 7) (v := ?_) rfl (by kernel_rfl) (by kernel_rfl) (by kernel_rfl) (fun _ _ _ h => h) (Or.inl ⟨by kernel_rfl, ?_⟩) (by assumption) ?_; rotate_left; (intro w hSw; obtain ⟨q0, q1, q2, q3, q4, q5⟩ := hSw; go_simp <;> with_reducible rfl); (simp only [Act.put, List.getElem_toArray, List.getElem_cons_zero, List.getElem_cons_succ, List.setIfInBounds_toArray, List.set_cons_zero, List.set_cons_succ])
  refine bxh_take (i := 8) (v := ?_) rfl (by kernel_rfl) (by kernel_rfl) (by kernel_rfl) (fun _ _ _ h => h) (Or.inl ⟨by kernel_rfl, ?_⟩) (by assumption) ?_; rotate_left; (intro w hSw; obtain ⟨q0, q1, q2, q3, q4, q5⟩ := hSw; go_simp <;> with_reducible rfl); (simp only [Act.put, List.getElem_toArray, List.getElem_cons_zero, List.getElem_cons_succ, List.setIfInBounds_toArray, List.set_cons_zero, List.set_cons_succ])
  refine bxh_next (i := 9) (by kernel_rfl) rfl (fun K hK => ?_)
  go_simp
  refine (CS.out _ T4.1.1.1).mono ?_
  rintro e w3 ⟨rfl, hbc⟩
  have T5 := lh_call T4 hbc
  have hS5 := lh_cells T5
  clear hbc
  refine hK.out _ _ ⟨hS5.1, hS5.2.1, hS5.2.2.1, hS5.2.2.2.1, hS5.2.2.2.2, trivial⟩ (fun hS => ?_)
  clear hK K
  refine bxh_take (i := 10) (v := ?_) rfl (by kernel_rfl) (by kernel_rfl) (by kernel_rfl) (fun _ _ _ h => h) (Or.inl ⟨by kernel_rfl, ?_⟩) (by assumption) ?_; rotate_left; (intro w hSw; obtain ⟨q0, q1, q2, q3, q4, q5⟩ := hSw; go_simp <;> with_reducible rfl); (simp only [Act.put, List.getElem_toArray, List.getElem_cons_zero, List.getElem_cons_succ, List.setIfInBounds_toArray, List.set_cons_zero, List.set_cons_succ])
  refine bxh_take (i := 11) (v := ?_) rfl (by kernel_rfl) (by kernel_rfl) (by kernel_rfl) (fun _ _ _ h => h) (Or.inl ⟨by kernel_rfl, ?_⟩) (by assumption) ?_; rotate_left; (intro w hSw; obtain ⟨q0, q1, q2, q3, q4, q5⟩ := hSw; go_simp <;> with_reducible rfl); (simp only [Act.put, List.getElem_toArray, List.getElem_cons_zero, List.getElem_cons_succ, List.setIfInBounds_toArray, List.set_cons_zero, List.set_cons_succ])
  refine bxh_next (i := 12) (by kernel_rfl) rfl (fun K hK => ?_)
  go_simp
  refine (want_no _ _).mono ?_
  rintro e w' ⟨rfl, rfl⟩
  exact ⟨rfl, rfl, T5.1.1.1⟩

set_option linter.unusedSimpArgs false in
set_option maxHeartbeats 2000000 in
theorem wLog_ok (k p c q : Int) (bm : Nat) (a : Option Addr) (n cap : Nat) (w : World) (ho : Objs w) (hm : w.heap[bm]? = some (memBox a n cap)) (h : Fit k p c) (q0 : 0 ≤ q) (q1 : q < p) (hn : (n : Int) = sizeN k p c) : Calls Tryd.prog 48 #[conf k p c, .pointer (some ⟨bm, 0, none⟩), .int .i64 q] w fun e w' => ∃ bf, e = .returned (.func (.func 61) #[] #[.pointer (some ⟨bf, 0, none⟩), .pointer (some ⟨w.heap.size, 0, none⟩), .pointer (some ⟨w.heap.size + 1, 0, none⟩)]) ∧ Lh w w' k p c bm bf (atN k p c 3 q) a n cap ∧ w.heap.size + 1 < bf := by
  have hF := fitsB_yes h
  have hbm := (Array.getElem?_eq_some_iff.1 hm).1
  have CA : Hid (∀ w1, Below w.heap.size w w1 → Calls Tryd.prog 27 #[conf k p c, .int .i64 3, .int .i64 q] w1 fun e w' => e = .returned (.tuple #[.int .i64 (atN k p c 3 q), .int .i64 0]) ∧ Below w1.heap.size w1 w') := Lib.hid (fun w1 hb => rAt_ok k p c 3 q w1 (ho.below hb) h (by omega) (by omega) q0 q1)
  have CS : Hid (∀ w1, Below w.heap.size w w1 → Calls Tryd.prog 36 #[conf k p c] w1 fun e w' => e = .returned (.int .i64 (sizeN k p c)) ∧ Below w1.heap.size w1 w') := Lib.hid (fun w1 hb => rSize k p c w1 (ho.below hb))
  have hne : ((n : Int) == sizeN k p c) = true := by simpa using hn
  have hmf : ∀ (fn : Fn) (first cap : Array Value) (w : World), (Instr.makeFunc fn first cap).run Tryd.prog w = .ok (.func fn first cap) w := fun _ _ _ _ => rfl
  clear h q0 q1 ho hn
  go_enter Tryd.func48, Tryd.ntmps48
  go_wp2_with (first | (go_at_call 41; refine (rFits _ _ _ _).mono ?_; rintro e w1 ⟨rfl, hbc⟩; have T1 := lg_call (lg_start _ _ _ _ _) hbc; obtain ⟨c0, c1, c2, m0, hz, hz'⟩ := lg_cells T1; clear hbc) | (go_at_call_of 40 (Value.bool true); refine (want_yes _ _).mono ?_; rintro e w' ⟨rfl, rfl⟩) | (go_at_call_of 40 (Value.bool false); refine (want_no _ _).mono ?_; rintro e w' ⟨rfl, rfl⟩) | (go_at_call 27; refine (CA.out _ T1.1.1).mono ?_; rintro e w2 ⟨rfl, hbc⟩; have T2 := lg_call T1 hbc; obtain ⟨c0, c1, c2, m0, hz, hz'⟩ := lg_cells T2; clear hbc))
  have T3 : Lh w (w2.alloc (.cells #[.int .i64 (atN k p c 3 q)] 3)) k p c bm w2.heap.size (atN k p c 3 q) a n cap := ⟨lg_call T2 (blk_alloc _ _), World.alloc_heap_new w2 _, (T2.1.1.alloc (by omega) _).block _ hbm |>.trans hm⟩
  have T4 := lh_drew T3
  refine bxh_start (S := fun W => W.cell? ⟨w.heap.size, 0, none⟩ = some (.int .i64 k) ∧ W.cell? ⟨w.heap.size, 1, none⟩ = some (.int .i64 p) ∧ W.cell? ⟨w.heap.size, 2, none⟩ = some (.int .i64 c) ∧ W.cell? ⟨w.heap.size + 1, 0, none⟩ = some (.pointer (some ⟨bm, 0, none⟩)) ∧ W.cell? ⟨bm, 0, none⟩ = some (.slice a n cap) ∧ True) (by kernel_rfl) ?_
  have hS := lh_cells T4
  replace hS : (fun W : World => W.cell? ⟨w.heap.size, 0, none⟩ = some (.int .i64 k) ∧ W.cell? ⟨w.heap.size, 1, none⟩ = some (.int .i64 p) ∧ W.cell? ⟨w.heap.size, 2, none⟩ = some (.int .i64 c) ∧ W.cell? ⟨w.heap.size + 1, 0, none⟩ = some (.pointer (some ⟨bm, 0, none⟩)) ∧ W.cell? ⟨bm, 0, none⟩ = some (.slice a n cap) ∧ True) _ := ⟨hS.1, hS.2.1, hS.2.2.1, hS.2.2.2.1, hS.2.2.2.2, trivial⟩
  refine bxh_take (i := 0) (v := ?_) rfl (by kernel_rfl) (by kernel_rfl) (by kernel_rfl) (fun _ _ _ h => h) (Or.inl ⟨by kernel_rfl, ?_⟩) (by assumption) ?_; rotate_left; (intro w hSw; obtain ⟨q0, q1, q2, q3, q4, q5⟩ := hSw; go_simp <;> with_reducible rfl); (simp only [Act.put, List.getElem_toArray, List.getElem_cons_zero, List.getElem_cons_succ, List.setIfInBounds_toArray, List.set_cons_zero, List.set_cons_succ])
  refine bxh_take (i := 1) (v := ?_) rfl (by kernel_rfl) (by kernel_rfl) (by kernel_rfl) (fun _ _ _ h => h) (Or.inl ⟨by kernel_rfl, ?_⟩) (by assumption) ?_; rotate_left; (intro w hSw; obtain ⟨q0, q1, q2, q3, q4, q5⟩ := hSw; go_simp <;> with_reducible rfl); (simp only [Act.put, List.getElem_toArray, List.getElem_cons_zero, List.getElem_cons_succ, List.setIfInBounds_toArray, List.set_cons_zero, List.set_cons_succ])
  refine bxh_take (i := 2) (v := ?_) rfl (by kernel_rfl) (by kernel_rfl) (by kernel_rfl) (fun _ _ _ h => h) (Or.inl ⟨by kernel_rfl, ?_⟩) (by assumption) ?_; rotate_left; (intro w hSw; obtain ⟨q0, q1, q2, q3, q4, q5⟩ := hSw; go_simp <;> with_reducible rfl); (simp only [Act.put, List.getElem_toArray, List.getElem_cons_zero, List.getElem_cons_succ, List.setIfInBounds_toArray, List.set_cons_zero, List.set_cons_succ])
  refine bxh_take (i := 3) (v := ?_) rfl (by kernel_rfl) (by kernel_rfl) (by kernel_rfl) (fun _ _ _ h => h) (Or.inl ⟨by kernel_rfl, ?_⟩) (by assumption) ?_; rotate_left; (intro w hSw; obtain ⟨q0, q1, q2, q3, q4, q5⟩ := hSw; go_simp <;> with_reducible rfl); (simp only [Act.put, List.getElem_toArray, List.getElem_cons_zero, List.getElem_cons_succ, List.setIfInBounds_toArray, List.set_cons_zero, List.set_cons_succ])
  refine bxh_take (i := 4) (v := ?_) rfl (by kernel_rfl) (by kernel_rfl) (by kernel_rfl) (fun _ _ _ h => h) (Or.inl ⟨by kernel_rfl, ?_⟩) (by assumption) ?_; rotate_left; (intro w hSw; obtain ⟨q0, q1, q2, q3, q4, q5⟩ := hSw; go_simp <;> with_reducible rfl); (simp only [Act.put, List.getElem_toArray, List.getElem_cons_zero, List.getElem_cons_succ, List.setIfInBounds_toArray, List.set_cons_zero, List.set_cons_succ])
  refine bxh_take (i := 5) (v := ?_) rfl (by kernel_rfl) (by kernel_rfl) (by kernel_rfl) (fun _ _ _ h => h) (Or.inl ⟨by kernel_rfl, ?_⟩) (by assumption) ?_; rotate_left; (intro w hSw; obtain ⟨q0, q1, q2, q3, q4, q5⟩ := hSw; go_simp <;> with_reducible rfl); (simp only [Act.put, List.getElem_toArray, List.getElem_cons_zero, List.getElem_cons_succ, List.setIfInBounds_toArray, List.set_cons_zero, List.set_cons_succ])
  refine bxh_take (i := 6) (v := ?_) rfl (by kernel_rfl) (by kernel_rfl) (by kernel_rfl) (fun _ _ _ h => h) (Or.inl ⟨by kernel_rfl, ?_⟩) (by assumption) ?_; rotate_left; (intro w hSw; obtain ⟨q0, q1, q2, q3, q4, q5⟩ := hSw; go_simp <;> with_reducible rfl); (simp only [Act.put, List.getElem_toArray, List.getElem_cons_zero, List.getElem_cons_succ, List.setIfInBounds_toArray, List.set_cons_zero, List.set_cons_succ])
  refine bxh_take (i := 7) (v := ?_) rfl (by kernel_rfl) (by kernel_rfl) (by kernel_rfl) (fun _ _ _ h => h) (Or.inl ⟨by kernel_rfl, ?_⟩) (by assumption) ?_; rotate_left; (intro w hSw; obtain ⟨q0, q1, q2, q3, q4, q5⟩ := hSw; go_simp <;> with_reducible rfl); (simp only [Act.put, List.getElem_toArray, List.getElem_cons_zero, List.getElem_cons_succ, List.setIfInBounds_toArray, List.set_cons_zero, List.set_cons_succ])
  refine bxh_take (i := 8) (v := ?_) rfl (by kernel_rfl) (by kernel_rfl) (by kernel_rfl) (fun _ _ _ h => h) (Or.inl ⟨by kernel_rfl, ?_⟩) (by assumption) ?_; rotate_left; (intro w hSw; obtain ⟨q0, q1, q2, q3, q4, q5⟩ := hSw; go_simp <;> with_reducible rfl); (simp only [Act.put, List.getElem_toArray, List.getElem_cons_zero, List.getElem_cons_succ, List.setIfInBounds_toArray, List.set_cons_zero, List.set_cons_succ])
  refine bxh_next (i := 9) (by kernel_rfl) rfl (fun K hK => ?_)
  go_simp
  refine (CS.out _ T4.1.1.1).mono ?_
  rintro e w3 ⟨rfl, hbc⟩
  have T5 := lh_call T4 hbc
  have hS5 := lh_cells T5
  clear hbc
  refine hK.out _ _ ⟨hS5.1, hS5.2.1, hS5.2.2.1, hS5.2.2.2.1, hS5.2.2.2.2, trivial⟩ (fun hS => ?_)
  clear hK K
  refine bxh_take (i := 10) (v := ?_) rfl (by kernel_rfl) (by kernel_rfl) (by kernel_rfl) (fun _ _ _ h => h) (Or.inl ⟨by kernel_rfl, ?_⟩) (by assumption) ?_; rotate_left; (intro w hSw; obtain ⟨q0, q1, q2, q3, q4, q5⟩ := hSw; go_simp <;> with_reducible rfl); (simp only [Act.put, List.getElem_toArray, List.getElem_cons_zero, List.getElem_cons_succ, List.setIfInBounds_toArray, List.set_cons_zero, List.set_cons_succ])
  refine bxh_take (i := 11) (v := ?_) rfl (by kernel_rfl) (by kernel_rfl) (by kernel_rfl) (fun _ _ _ h => h) (Or.inl ⟨by kernel_rfl, ?_⟩) (by assumption) ?_; rotate_left; (intro w hSw; obtain ⟨q0, q1, q2, q3, q4, q5⟩ := hSw; go_simp <;> with_reducible rfl); (simp only [Act.put, List.getElem_toArray, List.getElem_cons_zero, List.getElem_cons_succ, List.setIfInBounds_toArray, List.set_cons_zero, List.set_cons_succ])
  refine bxh_next (i := 12) (by kernel_rfl) rfl (fun K hK => ?_)
  go_simp
  refine (want_yes _ _).mono ?_
  rintro e w' ⟨rfl, rfl⟩
  refine hK.out _ _ ⟨hS5.1, hS5.2.1, hS5.2.2.1, hS5.2.2.2.1, hS5.2.2.2.2, trivial⟩ (fun hS => ?_)
  clear hK K
  refine bxh_done (by kernel_rfl) ?_ _
  go_wp2
  go_ret
  exact ⟨_, rfl, T5, hz⟩

end Go.Proofs.YthigfjelgbdcfaaDoor

/-! Layer 16: the iterator of log. -/
namespace Go.Proofs.YthigfjelgbdcfaaDoor
open Go.RowKit Go.Maps Go.Shelf

attribute [local go_sem] Oper.semAt_some

/-- the log's words can be read: each is 'Ok' -/
def LogAt (g f Ln : Nat) (Ok : Nat → Int → Prop) (W : World) : Prop := ∀ i, i < Ln → ∃ x, W.cell? ⟨g, (f + i) * 2, none⟩ = some (.int .u64 x) ∧ Ok i x
def KeepC (S : Nat → Prop) (Cl : World → Prop) (A B : World) : Prop := KeepW S A B ∧ (Cl A → Cl B)
theorem KeepC.trans {S : Nat → Prop} {Cl : World → Prop} {A B C : World} (h : KeepC S Cl A B) (h' : KeepC S Cl B C) : KeepC S Cl A C := ⟨h.1.trans h'.1, fun h0 => h'.2 (h.2 h0)⟩
theorem LogAt.below {g f Ln : Nat} {Ok : Nat → Int → Prop} {W W' : World} (h : LogAt g f Ln Ok W) (hg : g < W.heap.size) (hb : Below W.heap.size W W') : LogAt g f Ln Ok W' := by
  intro i hi
  obtain ⟨x, h1, h2⟩ := h i hi
  exact ⟨x, (hb.cell (p := ⟨g, (f + i) * 2, none⟩) hg).trans h1, h2⟩
theorem objs_keep {S : Nat → Prop} {W W' : World} (h : Objs W) (hk : KeepW S W W') (hs : ¬ S 0) : Objs W' := by
  obtain ⟨h0, h1⟩ := h
  refine ⟨Nat.lt_of_lt_of_le h0 hk.1, fun j hj => ?_⟩
  have hc := h1 0 (by omega)
  unfold World.cell? at hc
  simp only at hc
  obtain ⟨o, ho⟩ : ∃ o, W.heap[0]? = some o := ⟨_, Array.getElem?_eq_getElem h0⟩
  cases o with
  | cells c t f =>
    have he := hk.2 _ _ _ _ ho hs
    have := h1 j hj
    unfold World.cell? at this ⊢
    simp only at this ⊢
    rw [he]
    exact this
  | _ => rw [ho] at hc; simp at hc

/-- a place of a log that begins at f, and its word -/
abbrev InLog (f Ln : Nat) (Ok : Nat → Int → Prop) : Type := { x : Int × Int // ∃ i : Nat, i < Ln ∧ x.1 = (f : Int) + (i : Int) ∧ Ok i x.2 }
/-- all of them, in order -/
def LogOk (f Ln : Nat) (Ok : Nat → Int → Prop) (l : List (InLog f Ln Ok)) : Prop := ∀ (i : Nat) (x : InLog f Ln Ok), l[i]? = some x → x.1.1 = (f : Int) + (i : Int) ∧ Ok i x.1.2
theorem LogOk.nil (f Ln : Nat) (Ok : Nat → Int → Prop) : LogOk f Ln Ok [] := by intro i x h; simp at h
theorem LogOk.snoc {f Ln : Nat} {Ok : Nat → Int → Prop} {l : List (InLog f Ln Ok)} {x : InLog f Ln Ok} (h : LogOk f Ln Ok l) (h1 : x.1.1 = (f : Int) + l.length) (h2 : Ok l.length x.1.2) : LogOk f Ln Ok (l ++ [x]) := by
  intro i y hy
  rcases Nat.lt_or_ge i l.length with hi | hi
  · rw [List.getElem?_append_left hi] at hy
    exact h i y hy
  · rw [List.getElem?_append_right hi] at hy
    rcases Nat.eq_or_lt_of_le hi with he | hl
    · subst he
      simp at hy
      subst hy
      exact ⟨h1, h2⟩
    · rw [List.getElem?_eq_none (by simp; omega)] at hy
      cases hy
abbrev pairEnc {f Ln : Nat} {Ok : Nat → Int → Prop} (x : InLog f Ln Ok) : Array Value := #[.int .i64 x.1.1, .int .u64 x.1.2]

/-- the iterator's four boxes -/
def Lb (W : World) (k p c : Int) (bf bc bp bm : Nat) (f g N cap : Nat) : Prop :=
  W.heap[bf]? = some (.cells #[.int .i64 (f : Int)] 3 (0, 0)) ∧ W.heap[bc]? = some (.cells #[.int .i64 k, .int .i64 p, .int .i64 c] 24) ∧ W.heap[bp]? = some (.cells #[.pointer (some ⟨bm, 0, none⟩)] 84 (0, 0)) ∧ W.heap[bm]? = some (memBox (some ⟨g, 0, none⟩) N cap)

theorem lb_below {W W' : World} {k p c : Int} {bf bc bp bm f g N cap : Nat} (h : Lb W k p c bf bc bp bm f g N cap) (hb : Below W.heap.size W W') : Lb W' k p c bf bc bp bm f g N cap :=
  ⟨(hb.block _ (Array.getElem?_eq_some_iff.1 h.1).1).trans h.1, (hb.block _ (Array.getElem?_eq_some_iff.1 h.2.1).1).trans h.2.1, (hb.block _ (Array.getElem?_eq_some_iff.1 h.2.2.1).1).trans h.2.2.1, (hb.block _ (Array.getElem?_eq_some_iff.1 h.2.2.2).1).trans h.2.2.2⟩
theorem lb_keep {S : Nat → Prop} {W W' : World} {k p c : Int} {bf bc bp bm f g N cap : Nat} (h : Lb W k p c bf bc bp bm f g N cap) (hk : KeepW S W W') (s1 : ¬ S bf) (s2 : ¬ S bc) (s3 : ¬ S bp) (s4 : ¬ S bm) : Lb W' k p c bf bc bp bm f g N cap :=
  ⟨(hk.2 _ _ _ _ h.1 s1).trans h.1, (hk.2 _ _ _ _ h.2.1 s2).trans h.2.1, (hk.2 _ _ _ _ h.2.2.1 s3).trans h.2.2.1, (hk.2 _ _ _ _ h.2.2.2 s4).trans h.2.2.2⟩

set_option linter.unusedSimpArgs false in
set_option maxRecDepth 100000 in
set_option maxHeartbeats 2000000 in
theorem log_stops (S : Nat → Prop) (Ok : Nat → Int → Prop) (k p c : Int) (hf : Fit k p c) (bf bc bp bm f g N cap Ln : Nat) (w : World) (ho : Objs w) (hB : Lb w k p c bf bc bp bm f g N cap) (hC : LogAt g f Ln Ok w) (hg : g < w.heap.size) (s0 : ¬ S 0) (s1 : ¬ S bf) (s2 : ¬ S bc) (s3 : ¬ S bp) (s4 : ¬ S bm)
    (hL : logN k p c = Ln) (hfl : f + Ln ≤ N) (hN : N ≤ 40000) (n : Nat) (hn : 1 ≤ n) :
    SeqStopsK Fence.wide n Tryd.prog 61 #[.pointer (some ⟨bf, 0, none⟩), .pointer (some ⟨bc, 0, none⟩), .pointer (some ⟨bp, 0, none⟩)] pairEnc (KeepC S (LogAt g f Ln Ok)) (fun xs => xs.length = Ln ∧ LogOk f Ln Ok xs) (fun pre => pre.length ≤ Ln ∧ LogOk f Ln Ok pre) Ln w := by
  intro l J Jx W hW hJ hJx hY h0
  have CL : Hid (∀ w1, Objs w1 → Calls Tryd.prog 43 #[conf k p c] w1 fun e w' => e = .returned (.int .i64 (Ln : Int)) ∧ Below w1.heap.size w1 w') := Lib.hid (fun w1 h => hL ▸ rLogSize k p c w1 h)
  have HB := Lib.hid (lb_below hB hW)
  have HO := Lib.hid (ho.below hW)
  have HC := Lib.hid (hC.below hg hW)
  have hgW : g < W.heap.size := Nat.lt_of_lt_of_le hg hW.size
  have hLm : Ln ≤ 2117 := by have := logN_bd k p c; omega
  clear hB hC ho hW hL hg hf
  refine callsIn_of_wp Tryd.func61 rfl trivial ?_ rfl
  simp only [Tryd.ntmps61, List.size_toArray, List.length_cons, List.length_nil, Nat.reduceAdd, Nat.reduceSub, Array.replicate_succ, Array.replicate_zero, List.push_toArray, List.append_toArray, List.nil_append, List.cons_append]
  have d1 := blk_cell HB.out.1 (i := 0) (v := .int .i64 (f : Int)) rfl
  gi_wp2
  clear d1
  gi_loopw [5] (fun at_ wr => ∃ (j : Nat) (pre : List (InLog f Ln Ok)), j ≤ Ln ∧ pre.length = j ∧ at_ = .int .i64 ((f : Int) + j) ∧ Hid (LogOk f Ln Ok pre) ∧ J pre wr ∧ Hid (Lb wr k p c bf bc bp bm f g N cap) ∧ Hid (Objs wr) ∧ Hid (LogAt g f Ln Ok wr) ∧ g < wr.heap.size ∧ W.heap.size ≤ wr.heap.size) (fun at_ wr => (f + Ln - intOf at_).toNat)
  case atStart => exact ⟨0, [], by omega, rfl, by simp, Lib.hid (LogOk.nil f Ln Ok), h0, HB, HO, HC, hgW, Nat.le_refl _⟩
  case round =>
    obtain ⟨j, pre, hj, hpl, rfl, HP, hJp, hLb, hOb, hLa, hgr, hsz⟩ := hrel
    clear HB HO HC h0 hgW
    have y1 := blk_cell hLb.out.1 (i := 0) (v := .int .i64 (f : Int)) rfl
    have y2 := blk_cell hLb.out.2.1 (i := 0) (v := .int .i64 k) rfl
    have y3 := blk_cell hLb.out.2.1 (i := 1) (v := .int .i64 p) rfl
    have y4 := blk_cell hLb.out.2.1 (i := 2) (v := .int .i64 c) rfl
    have z1 := (Array.getElem?_eq_some_iff.1 hLb.out.1).1
    have z2 := (Array.getElem?_eq_some_iff.1 hLb.out.2.1).1
    have e1 : IntKind.i64.wrap ((f : Int) + (Ln : Int)) = (f : Int) + Ln := w64 (by omega) (by omega)
    have hrg := regrown_cell wr
    gi_wp2
    refine wpIn_wide.2 ?_
    refine wp_region_quiet_below (by kernel_rfl) (by kernel_rfl) ?_
    repeat (quiet_step (exact Calls.regrown_of (CL.out _ (hOb.out.regrown _ _))))
    refine wpQuiet_nil ?_; intro wq hwq; obtain ⟨pq, hpq⟩ := hwq
    have hbq : Below wr.heap.size wr wq := (hpq ▸ below_regrown _ _ _ : Below _ wr wq)
    have hLq := Lib.hid (lb_below hLb.out hbq)
    have hOq := Lib.hid (hOb.out.below hbq)
    have hLaq := Lib.hid (hLa.out.below hgr hbq)
    have hgq : g < wq.heap.size := Nat.lt_of_lt_of_le hgr hbq.size
    have hsq : W.heap.size ≤ wq.heap.size := Nat.le_trans hsz hbq.size
    have hJq : J pre wq := hJ pre wr wq none hJp ⟨hbq.os, hbq.tape, hbq.output, hbq.size, fun k hk _ => hbq.block k hk⟩ (by simp)
    clear hrg hpq hbq hLb hOb hLa hgr hsz hJp y1 y2 y3 y4 z1 z2 e1
    simp only [Exit.then]
    by_cases hlt : j = Ln
    · subst hlt
      gi_wp2
      go_end0
      exact ⟨⟨_, rfl⟩, .inl ⟨_, ⟨hpl, HP.out⟩, hJq⟩⟩
    · have hlt' : j < Ln := by omega
      clear hj hlt
      have y5 := blk_cell hLq.out.2.2.1 (i := 0) (v := .pointer (some ⟨bm, 0, none⟩)) rfl
      have y6 := blk_cell hLq.out.2.2.2 (i := 0) (v := .slice (some ⟨g, 0, none⟩) N cap) rfl
      obtain ⟨x, hx, hOk⟩ := hLaq.out j hlt'
      have t0 : ((f : Int) + (j : Int)).toNat = f + j := by omega
      have l0 : (0 : Int) ≤ (f : Int) + (j : Int) := by omega
      have l1 : (f : Int) + (j : Int) < N := by omega
      obtain ⟨X, hX⟩ : ∃ X : InLog f Ln Ok, X.1 = ((f : Int) + j, x) := ⟨⟨((f : Int) + j, x), j, hlt', rfl, hOk⟩, rfl⟩
      have HX := Lib.hid (show X.1.1 = (f : Int) + j ∧ Ok j X.1.2 by rw [hX]; exact ⟨rfl, hOk⟩)
      obtain ⟨fn, tmps, assign, body, hy, hR⟩ := hY pre X wq hJq (by omega)
      simp only [pairEnc, hX] at hy
      clear hOk hX
      gi_wp2
      refine hR.mono ?_
      rintro e W3 (⟨rfl, hJ3, hk3⟩ | ⟨rfl, hJx3⟩)
      · have hL3 := Lib.hid (lb_keep hLq.out hk3.1 s1 s2 s3 s4)
        have hO3 := Lib.hid (objs_keep hOq.out hk3.1 s0)
        have hLa3 := Lib.hid (hk3.2 hLaq.out)
        have hg3 : g < W3.heap.size := Nat.lt_of_lt_of_le hgq hk3.1.1
        have hs3 : W.heap.size ≤ W3.heap.size := Nat.le_trans hsq hk3.1.1
        have HP3 := Lib.hid (HP.out.snoc (x := X) (by rw [hpl]; exact HX.out.1) (by rw [hpl]; exact HX.out.2))
        clear hk3 hLq hOq hLaq
        gi_wp2
        go_roundw
        case rel =>
          have hl3 : (pre ++ [X]).length = j + 1 := by simp [hpl]
          have ha3 : Value.int .i64 ((f : Int) + j + 1) = .int .i64 ((f : Int) + ((j + 1 : Nat) : Int)) := by go_num
          exact ⟨j + 1, _, by omega, hl3, ha3, HP3, hJ3, hL3, hO3, hLa3, hg3, hs3⟩
        case measure => simp [intOf]; omega
      · gi_wp2
        refine bodyPost_ret (results_none rfl _ _ _) rfl ?_
        exact ⟨⟨_, rfl⟩, .inr ⟨_, ⟨by simp; omega, HP.out.snoc (x := X) (by rw [hpl]; exact HX.out.1) (by rw [hpl]; exact HX.out.2)⟩, hJx3⟩⟩

end Go.Proofs.YthigfjelgbdcfaaDoor

/-! Layer 16: Wipe, where nothing is done. -/
namespace Go.Proofs.YthigfjelgbdcfaaDoor
open Go.RowKit Go.Maps Go.Shelf

/-- the frame's four boxes: the configuration, memory, the results -/
def Wf (w W : World) (k p c : Int) (a : Option Addr) (n cap : Nat) (r : Int) : Prop := Mw w W k p c a n cap ∧ W.heap[w.heap.size + 1 + 1 + 1]? = some (atErr r)
theorem wf_start (w : World) (k p c : Int) (a : Option Addr) (n cap : Nat) : Wf w ((((w.alloc (.cells #[.int .i64 k, .int .i64 p, .int .i64 c] 24)).alloc (memBox a n cap)).alloc (memBox none 0 0)).alloc (atErr 0)) k p c a n cap 0 := ⟨mw_call (mw_start w k p c a n cap) (blk_alloc _ _), alloc_at _ _ (by simp)⟩
theorem wf_call {w W W' : World} {k p c r : Int} {a : Option Addr} {n cap : Nat} (h : Wf w W k p c a n cap r) (hb : Below W.heap.size W W') : Wf w W' k p c a n cap r :=
  ⟨mw_call h.1 hb, (hb.block _ (Array.getElem?_eq_some_iff.1 h.2).1).trans h.2⟩
theorem wf_far {w W : World} {k p c r : Int} {a : Option Addr} {n cap g i : Nat} (h : Wf w W k p c a n cap r) (hg : w.heap.size + 1 + 1 + 1 < g) (v : Value) : Wf w (W.setCell ⟨g, i, none⟩ v) k p c a n cap r :=
  ⟨mw_set h.1 (by omega) v, blk_far h.2 (by omega) v⟩
theorem wf_set {w W : World} {k p c r : Int} {a : Option Addr} {n cap : Nat} (h : Wf w W k p c a n cap r) (r' : Int) : Wf w (W.setCell ⟨w.heap.size + 1 + 1 + 1, 0, none⟩ (.int .i64 r')) k p c a n cap r' :=
  ⟨mw_set h.1 (by omega) _, blk_set h.2 _⟩
theorem wf_cells {w W : World} {k p c r : Int} {a : Option Addr} {n cap : Nat} (h : Wf w W k p c a n cap r) : W.cell? ⟨w.heap.size, 0, none⟩ = some (.int .i64 k) ∧ W.cell? ⟨w.heap.size, 1, none⟩ = some (.int .i64 p) ∧ W.cell? ⟨w.heap.size, 2, none⟩ = some (.int .i64 c) ∧
    W.cell? ⟨w.heap.size + 1, 0, none⟩ = some (.slice a n cap) ∧ W.cell? ⟨w.heap.size + 1 + 1, 0, none⟩ = some (.slice none 0 0) ∧ W.cell? ⟨w.heap.size + 1 + 1 + 1, 0, none⟩ = some (.int .i64 r) ∧ W.frozen? ⟨w.heap.size + 1 + 1, 0, none⟩ = false ∧ W.frozen? ⟨w.heap.size + 1 + 1 + 1, 0, none⟩ = false ∧ w.heap.size + 1 + 1 + 1 < W.heap.size := by
  obtain ⟨c0, c1, c2, m0, _⟩ := mm_cells h.1.1
  exact ⟨c0, c1, c2, m0, blk_cell h.1.2 rfl, blk_cell h.2 rfl, blk_frozen h.1.2, blk_frozen h.2, (Array.getElem?_eq_some_iff.1 h.2).1⟩
theorem wf_below {w W : World} {k p c r : Int} {a : Option Addr} {n cap : Nat} (h : Wf w W k p c a n cap r) : Below w.heap.size w W := h.1.1.1.1
theorem wf_lt {w W : World} {k p c r : Int} {a : Option Addr} {n cap : Nat} (h : Wf w W k p c a n cap r) : w.heap.size + 1 + 1 + 1 < W.heap.size := (Array.getElem?_eq_some_iff.1 h.2).1

theorem wWipe_err (k p c q r : Int) (a : Option Addr) (n cap : Nat) (ms : List (Int × Int)) (w : World) (hms : ms.length = n) (hl : n ≤ 1000000) (hs : Sl w (.slice a n cap) n (cls ms))
    (hlog : ∀ w1 bm a1 c1, Below w.heap.size w w1 → w1.heap[bm]? = some (memBox a1 n c1) → Calls Tryd.prog 48 #[conf k p c, .pointer (some ⟨bm, 0, none⟩), .int .i64 q] w1 fun e w' => e = .panicked (oddCh r) ∧ Below w1.heap.size w1 w') :
    Calls Tryd.prog 23 #[conf k p c, .agg #[.slice a n cap], .int .i64 q] w fun e w' => e = .returned (memE r) ∧ Below w.heap.size w w' := by
  have CO : Hid (∀ w1, Below w.heap.size w w1 → Calls Tryd.prog 47 #[.slice a n cap] w1 fun e w' => ∃ v, e = .returned v ∧ w'.ownsRow w1.heap.size 68 2 v n (cls ms) ∧ Below w1.heap.size w1 w') := Lib.hid (fun w1 hb => clone _ ms n w1 hms (hs.below hb) hl)
  have CG := Lib.hid hlog
  clear hlog hs hms
  go_enter_defers Tryd.func23, Tryd.ntmps23
  go_wp2_with (first | (go_at_call 47; refine (CO.out _ (wf_below (wf_start w k p c a n cap))).mono ?_; rintro e wo ⟨v, rfl, hv, hbo⟩; obtain ⟨a1, cp1, rfl⟩ := owns_slice hv; have T1 := Lib.hid (wf_call (wf_start w k p c a n cap) hbo); obtain ⟨c0, c1, c2, m0, r0, r1, f0, f1, hz⟩ := wf_cells T1.out; have hz1 : w.heap.size < wo.heap.size := (by omega); clear hbo hv) | (go_at_call 48; refine (CG.out _ wo.heap.size a1 cp1 (wf_below (wf_call T1.out (blk_alloc _ _))) (World.alloc_heap_new wo _)).mono ?_; rintro e wl ⟨rfl, hbl⟩; have T2 := Lib.hid (wf_call (wf_call T1.out (blk_alloc wo (memBox a1 n cp1))) hbl); obtain ⟨c0, c1, c2, m0, r0, r1, f0, f1, hz⟩ := wf_cells T2.out; clear hbl))
  refine leaves_cons (f := 39) (args := #[.pointer (some ⟨w.heap.size + 1 + 1 + 1, 0, none⟩)]) (by simp) (by simp [go_sem]) ?_; have TT := T2.out; refine (caught_panic (w.heap.size + 1 + 1 + 1) r _ _ (wf_lt TT) (wf_cells TT).2.2.2.2.2.1 (wf_cells TT).2.2.2.2.2.2.2.1).mono ?_; rintro e u' w'' ⟨rfl, rfl, hB⟩; have T9 := wf_call (wf_set TT r) (by simpa using hB); have hc := (wf_cells T9).2.2.2.2.1; have hd := (wf_cells T9).2.2.2.2.2.1; simp [Leaves, settle, results, memE, Tryd.results23, go_sem, hc, hd]; exact wf_below T9

end Go.Proofs.YthigfjelgbdcfaaDoor
