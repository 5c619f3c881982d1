/- The contract of the reference's Lay, whatever the input. -/
import Derived.Test.YthigfjelgbdcfaaDoorGLayW
import Derived.Test.YthigfjelgbdcfaaDoorGStill

set_option linter.unusedSimpArgs false
set_option linter.unusedVariables false

/-! Layer 16: the reference's Lay. -/
namespace Go.Proofs.YthigfjelgbdcfaaDoor
open Go.RowKit Go.Maps

theorem fLay_err (k p c q r : Int) (a : Option Addr) (n cap : Nat) (w : World) (hr : r = 5 ∨ r = 1) (hm : ∀ w1, Calls Tryd.prog 50 #[conf k p c, .agg #[.slice a n cap], .int .i64 q] w1 fun e w' => e = .returned (.int .i64 r) ∧ Below w1.heap.size w1 w') :
    Calls Tryd.prog 22 #[conf k p c, .agg #[.slice a n cap], .int .i64 q] w fun e w' => e = .returned (memE r) ∧ Below w.heap.size w w' := by
  have HM := Lib.hid hm
  clear hm
  rcases hr with rfl | rfl
  all_goals
    go_enter Tryd.func22, Tryd.ntmps22
    go_wp2_with (first | (go_at_call 50; refine (HM.out _).mono ?_; rintro e wc ⟨rfl, hbc⟩; have hBc : Below w.heap.size w wc := Below.trans (by repeat (first | exact Below.refl _ _ | assumption | refine Below.drew ?_ | refine Below.alloc ?_ (by first | omega | (simp; omega) | (simp; done)) _ | refine Below.setCell ?_ (by first | omega | (simp; omega) | (simp; done)) _)) (hbc.mono (by simp; omega)); have b2 : wc.heap[w.heap.size + 1 + 1]? = some (memBox none 0 0) := (hbc.block _ (by simp)).trans (alloc_at _ _ (by simp)); have y2 := blk_cell b2 (i := 0) (v := .slice none 0 0) rfl; have f2 := blk_frozen b2 (i := 0); clear hbc))
    have y3 := blk_cell (blk_set (i := 0) b2 (.slice none 0 0)) (i := 0) (v := .slice none 0 0) rfl
    refine ⟨rfl, memE _, ?_, rfl, hBc.setCell (p := ⟨w.heap.size + 1 + 1, 0, none⟩) (by simp; omega) _⟩
    simp [results, memE, Tryd.f22, go_sem, y3]

theorem owns_ne {W : World} {base g gl i n cap : Nat} {e : TypeId} {size : Nat} {xs : List Value} (h : W.ownsRow base e size (.slice (some ⟨gl, 0, none⟩) n cap) n xs) (hg : g ≠ gl) (u : Value) : (W.setCell ⟨g, i, none⟩ u).ownsRow base e size (.slice (some ⟨gl, 0, none⟩) n cap) n xs := by
  refine ⟨h.1, ?_⟩
  rcases h.2 with ⟨h0, _⟩ | ⟨b, cap', cur, hv, h1, h2, h3⟩
  · cases h0
  · cases hv
    exact .inr ⟨_, _, cur, rfl, h1, blk_far h2 hg u, h3⟩

set_option linter.unusedSimpArgs false in
set_option maxRecDepth 100000 in
set_option maxHeartbeats 4000000 in
theorem fLay_ok (k p c q : Int) (a : Option Addr) (cap : Nat) (ms : List (Int × Int)) (N f Ln : Nat) (R : List (Int × Int) × Int) (w : World) (ho : Objs w) (h : Fit k p c) (q0 : 0 ≤ q) (q1 : q < p) (hL : logN k p c = Ln) (hL1 : 1 ≤ Ln) (hf : atN k p c 3 q = f) (hfl : f + Ln ≤ N) (hms : ms.length = N) (hN : (N : Int) = sizeN k p c) (hs : Sl w (.slice a N cap) N (cls ms)) (hmw : ∀ x ∈ ms, 0 ≤ x.1 ∧ x.1 ≤ 18446744073709551615)
    (hR : unR k p c (logW ms f Ln) = R) :
    Calls Tryd.prog 22 #[conf k p c, .agg #[.slice a N cap], .int .i64 q] w (LayPost w ms N R) := by
  have hNb : N ≤ 40000 := by have := sizeN_bd k p c; omega
  have hR2 : R.2 = 0 ∨ R.2 = 2 := hR ▸ unR_err h
  have HRP := Lib.hid (show ∀ x ∈ R.1, 0 ≤ x.1 ∧ x.1 < N by rw [← hR, hN]; exact unR_place (logW_ok hmw))
  have CM : Hid (∀ w1, Calls Tryd.prog 50 #[conf k p c, .agg #[.slice a N cap], .int .i64 q] w1 fun e w' => e = .returned (.int .i64 0) ∧ Below w1.heap.size w1 w') := Lib.hid (fun w1 => fMay_ok k p c q a N cap w1 h hN q0 q1)
  have CG : Hid (∀ w1, Below w.heap.size w w1 → Calls Tryd.prog 51 #[conf k p c, .agg #[.slice a N cap], .int .i64 q] w1 fun e w' => (∃ v, e = .returned v ∧ w'.ownsRow w1.heap.size 28 1 v Ln (u64s (logW ms f Ln))) ∧ Below w1.heap.size w1 w') := Lib.hid (fun w1 hb => fLog k p c q _ ms N f Ln w1 h q0 q1 hL hf hfl hms hNb (hs.below hb))
  have CU : Hid (∀ w1 sv, Below w.heap.size w w1 → Sl w1 sv Ln (u64s (logW ms f Ln)) → Calls Tryd.prog 16 #[conf k p c, sv] w1 (UnPost w1 R)) := Lib.hid (fun w1 sv hb hsv => hR ▸ fUn k p c sv (logW ms f Ln) Ln w1 (ho.below hb) (logW_len _ _ _) hsv (logW_ok hmw))
  have CO : Hid (∀ w1, Below w.heap.size w w1 → Calls Tryd.prog 46 #[.agg #[.slice a N cap]] w1 fun e w' => ∃ v, e = .returned (.agg #[v]) ∧ w'.ownsRow w1.heap.size 68 2 v N (cls ms) ∧ Below w1.heap.size w1 w') := Lib.hid (fun w1 hb => fOwn _ ms N w1 hms (hs.below hb) (by omega))
  have HM := Lib.hid hms
  clear ho h hL hf hms hs q0 q1 hN hR hmw
  go_enter Tryd.func22, Tryd.ntmps22
  go_wp2_with (first | (go_at_call 50; refine (CM.out _).mono ?_; rintro e wc ⟨rfl, hbc⟩; have T1 := mw_call (mw_start _ _ _ _ _ _ _) hbc; obtain ⟨c0, c1, c2, m0, hz⟩ := mm_cells T1.1; clear hbc))
  have T2 := mw_call T1 (Below.refl _ _).drew
  refine bxh_start (S := fun W => W.cell? ⟨w.heap.size, 0, none⟩ = some (.int .i64 k) ∧ W.cell? ⟨w.heap.size, 1, none⟩ = some (.int .i64 p) ∧ W.cell? ⟨w.heap.size, 2, none⟩ = some (.int .i64 c) ∧ W.cell? ⟨w.heap.size + 1, 0, none⟩ = some (.slice a N cap) ∧ True ∧ True) (by kernel_rfl) ?_
  have hS0 := mm_cells T2.1
  have hS : (fun W : World => W.cell? ⟨w.heap.size, 0, none⟩ = some (.int .i64 k) ∧ W.cell? ⟨w.heap.size, 1, none⟩ = some (.int .i64 p) ∧ W.cell? ⟨w.heap.size, 2, none⟩ = some (.int .i64 c) ∧ W.cell? ⟨w.heap.size + 1, 0, none⟩ = some (.slice a N cap) ∧ True ∧ True) wc.drew := ⟨hS0.1, hS0.2.1, hS0.2.2.1, hS0.2.2.2.1, trivial, trivial⟩
  clear hS0
  refine bxh_take (i := 0) (v := ?_) rfl (by kernel_rfl) (by kernel_rfl) (by kernel_rfl) (fun _ _ _ h => h) (Or.inl ⟨by kernel_rfl, ?_⟩) (by assumption) ?_; rotate_left; (intro w hSw; obtain ⟨q0, q1, q2, q3, q4, q5⟩ := hSw; go_simp <;> with_reducible rfl); (simp only [Act.put, List.getElem_toArray, List.getElem_cons_zero, List.getElem_cons_succ, List.setIfInBounds_toArray, List.set_cons_zero, List.set_cons_succ])
  refine bxh_take (i := 1) (v := ?_) rfl (by kernel_rfl) (by kernel_rfl) (by kernel_rfl) (fun _ _ _ h => h) (Or.inl ⟨by kernel_rfl, ?_⟩) (by assumption) ?_; rotate_left; (intro w hSw; obtain ⟨q0, q1, q2, q3, q4, q5⟩ := hSw; go_simp <;> with_reducible rfl); (simp only [Act.put, List.getElem_toArray, List.getElem_cons_zero, List.getElem_cons_succ, List.setIfInBounds_toArray, List.set_cons_zero, List.set_cons_succ])
  refine bxh_take (i := 2) (v := ?_) rfl (by kernel_rfl) (by kernel_rfl) (by kernel_rfl) (fun _ _ _ h => h) (Or.inl ⟨by kernel_rfl, ?_⟩) (by assumption) ?_; rotate_left; (intro w hSw; obtain ⟨q0, q1, q2, q3, q4, q5⟩ := hSw; go_simp <;> with_reducible rfl); (simp only [Act.put, List.getElem_toArray, List.getElem_cons_zero, List.getElem_cons_succ, List.setIfInBounds_toArray, List.set_cons_zero, List.set_cons_succ])
  refine bxh_take (i := 3) (v := ?_) rfl (by kernel_rfl) (by kernel_rfl) (by kernel_rfl) (fun _ _ _ h => h) (Or.inl ⟨by kernel_rfl, ?_⟩) (by assumption) ?_; rotate_left; (intro w hSw; obtain ⟨q0, q1, q2, q3, q4, q5⟩ := hSw; go_simp <;> with_reducible rfl); (simp only [Act.put, List.getElem_toArray, List.getElem_cons_zero, List.getElem_cons_succ, List.setIfInBounds_toArray, List.set_cons_zero, List.set_cons_succ])
  refine bxh_next (i := 4) (by kernel_rfl) rfl (fun K hK => ?_)
  go_simp
  refine (CG.out _ T2.1.1.1).mono ?_
  rintro e w3 ⟨⟨v, rfl, hv⟩, hbc⟩
  obtain ⟨av, cv, rfl⟩ := owns_slice hv
  have T3 := mw_call T2 hbc
  have HV := Lib.hid (sl_of_owns hv)
  clear hbc hv
  have hS3 := mm_cells T3.1
  refine hK.out _ _ ⟨hS3.1, hS3.2.1, hS3.2.2.1, hS3.2.2.2.1, trivial, trivial⟩ (fun hS => ?_)
  clear hK K
  refine bxh_next (i := 5) (by kernel_rfl) rfl (fun K hK => ?_)
  go_simp
  refine (CU.out _ _ T3.1.1.1 HV.out).mono ?_
  rintro e w4 ⟨vl, rfl, hvl, hbc⟩
  obtain ⟨al, cl, rfl⟩ := owns_slice hvl
  have T4 := mw_call T3 hbc
  have HVL := Lib.hid hvl
  have hz4 := hbc.size
  clear hbc hvl
  have hS4 := mm_cells T4.1
  refine hK.out _ _ ⟨hS4.1, hS4.2.1, hS4.2.2.1, hS4.2.2.2.1, trivial, trivial⟩ (fun hS => ?_)
  clear hK K
  refine bxh_take (i := 6) (v := ?_) rfl (by kernel_rfl) (by kernel_rfl) (by kernel_rfl) (fun _ _ _ h => h) (Or.inl ⟨by kernel_rfl, ?_⟩) (by assumption) ?_; rotate_left; (intro w hSw; obtain ⟨q0, q1, q2, q3, q4, q5⟩ := hSw; go_simp <;> with_reducible rfl); (simp only [Act.put, List.getElem_toArray, List.getElem_cons_zero, List.getElem_cons_succ, List.setIfInBounds_toArray, List.set_cons_zero, List.set_cons_succ])
  refine bxh_take (i := 7) (v := ?_) rfl (by kernel_rfl) (by kernel_rfl) (by kernel_rfl) (fun _ _ _ h => h) (Or.inl ⟨by kernel_rfl, ?_⟩) (by assumption) ?_; rotate_left; (intro w hSw; obtain ⟨q0, q1, q2, q3, q4, q5⟩ := hSw; go_simp <;> with_reducible rfl); (simp only [Act.put, List.getElem_toArray, List.getElem_cons_zero, List.getElem_cons_succ, List.setIfInBounds_toArray, List.set_cons_zero, List.set_cons_succ])
  refine bxh_take (i := 8) (v := ?_) rfl (by kernel_rfl) (by kernel_rfl) (by kernel_rfl) (fun _ _ _ h => h) (Or.inl ⟨by kernel_rfl, ?_⟩) (by assumption) ?_; rotate_left; (intro w hSw; obtain ⟨q0, q1, q2, q3, q4, q5⟩ := hSw; go_simp <;> with_reducible rfl); (simp only [Act.put, List.getElem_toArray, List.getElem_cons_zero, List.getElem_cons_succ, List.setIfInBounds_toArray, List.set_cons_zero, List.set_cons_succ])
  refine bxh_take (i := 9) (v := ?_) rfl (by kernel_rfl) (by kernel_rfl) (by kernel_rfl) (fun _ _ _ h => h) (Or.inl ⟨by kernel_rfl, ?_⟩) (by assumption) ?_; rotate_left; (intro w hSw; obtain ⟨q0, q1, q2, q3, q4, q5⟩ := hSw; go_simp <;> with_reducible rfl); (simp only [Act.put, List.getElem_toArray, List.getElem_cons_zero, List.getElem_cons_succ, List.setIfInBounds_toArray, List.set_cons_zero, List.set_cons_succ])
  refine bxh_take (i := 10) (v := ?_) rfl (by kernel_rfl) (by kernel_rfl) (by kernel_rfl) (fun _ _ _ h => h) (Or.inl ⟨by kernel_rfl, ?_⟩) (by assumption) ?_; rotate_left; (intro w hSw; obtain ⟨q0, q1, q2, q3, q4, q5⟩ := hSw; go_simp <;> with_reducible rfl); (simp only [Act.put, List.getElem_toArray, List.getElem_cons_zero, List.getElem_cons_succ, List.setIfInBounds_toArray, List.set_cons_zero, List.set_cons_succ])
  refine bxh_done (by kernel_rfl) ?_ _
  obtain ⟨c0, c1, c2, m0, hz5⟩ := hS4
  have y2 := blk_cell T4.2 (i := 0) (v := .slice none 0 0) rfl
  have f2 := blk_frozen T4.2 (i := 0)
  have HT4 := Lib.hid T4
  clear hS T3 hS3 T2 T1 T4
  rcases hR2 with hr0 | hr0
  · rw [hr0]
    go_wp2_with (first | (go_at_call 46; refine (CO.out _ HT4.out.1.1.1).mono ?_; rintro e wo ⟨v, rfl, hv, hbo⟩; obtain ⟨g, cp, rfl, hgb, hgl⟩ := World.ownsRow.form hv (by omega); have T5 := Lib.hid (mw_call HT4.out hbo); have HV5 := Lib.hid hv; have VL5 := Lib.hid (owns_below HVL.out hbo); obtain ⟨c0, c1, c2, m0, hzo⟩ := mm_cells T5.out.1; have hzo1 : w.heap.size < wo.heap.size := (by omega); have hzo2 := hbo.size; clear hbo hv))
    have HB9 := Lib.hid (World.alloc_heap_new wo (memBox (some ⟨g, 0, none⟩) N cp))
    have HT5 := Lib.hid (mw_call T5.out (blk_alloc wo (memBox (some ⟨g, 0, none⟩) N cp)))
    have HG5 := Lib.hid (HV5.out.alloc (memBox (some ⟨g, 0, none⟩) N cp))
    have HL5 := Lib.hid (VL5.out.alloc (memBox (some ⟨g, 0, none⟩) N cp))
    have hg2 : w.heap.size + 1 + 1 < g := by have := (Array.getElem?_eq_some_iff.1 HT4.out.2).1; omega
    obtain ⟨g9, hg9⟩ : ∃ g9, wo.heap.size = g9 := ⟨_, rfl⟩
    obtain ⟨W5, hW5⟩ : ∃ W5, wo.alloc (memBox (some ⟨g, 0, none⟩) N cp) = W5 := ⟨_, rfl⟩
    have hgg : g < g9 := by omega
    have hg9w : g9 < W5.heap.size := by rw [← hW5]; simp; omega
    have hbaseL : w3.heap.size ≤ g := by omega
    rw [hg9] at HB9 ⊢
    rw [hW5] at HB9 HT5 HG5 HL5 ⊢
    have hal : ∀ b : Nat, al = some ⟨b, 0, none⟩ → b < g := by
      intro b hb
      subst hb
      rcases HVL.out.2 with ⟨h0, _⟩ | ⟨b', cap', cur, hv, h1, h2, h3⟩
      · cases h0
      · cases hv
        have := (Array.getElem?_eq_some_iff.1 h2).1
        omega
    clear hW5 HV5 VL5 T5 c0 c1 c2 m0 HT4 HVL y2 f2
    have hnm : R.1.length ≤ 9223372036854775807 := by
      rcases HL5.out.2 with ⟨h0, _⟩ | ⟨g', cap', cur, hv, h1, h2, h3, h4, _⟩
      · have e := congrArg (fun v => match v with | Value.slice _ n _ => n | _ => 0) h0; simp only at e; omega
      · unfold maxLen at h4; omega
    go_loopw [12] (fun i wr => ∃ j : Nat, j ≤ R.1.length ∧ i = .int .i64 j ∧ Hid (wr.heap[g9]? = some (memBox (some ⟨g, 0, none⟩) N cp)) ∧ Hid (wr.ownsRow (w.heap.size + 1 + 1) 68 2 (.slice (some ⟨g, 0, none⟩) N cp) N (cls (layTo ms (R.1.take j)))) ∧ Hid (Mw w wr k p c a N cap) ∧ Hid (wr.ownsRow w3.heap.size 71 2 (.slice al R.1.length cl) R.1.length (wrs R.1))) (fun i _ => R.1.length - (intOf i).toNat)
    case atStart => exact ⟨0, by omega, rfl, HB9, Lib.hid (owns_base HG5.out (by omega)), HT5, HL5⟩
    case round =>
      obtain ⟨j, hj, rfl, hbx, how, h1, hl⟩ := hrel
      clear HB9 HT5 HG5 HL5
      by_cases hlt : j = R.1.length
      · have how' := Lib.hid (show wr.ownsRow (w.heap.size + 1 + 1) 68 2 (.slice (some ⟨g, 0, none⟩) N cp) N (cls (layTo ms R.1)) from by have := how.out; rw [hlt, List.take_length] at this; exact this)
        have hlt2 : decide (j < R.1.length) = false := decide_eq_false (by omega)
        have y9 := blk_cell hbx.out (i := 0) (v := .slice (some ⟨g, 0, none⟩) N cp) rfl
        have y2 := blk_cell h1.out.2 (i := 0) (v := .slice none 0 0) rfl
        have f2 := blk_frozen h1.out.2 (i := 0)
        clear how hlt
        go_wp2
        have y3 := blk_cell (blk_set (i := 0) h1.out.2 (.slice (some ⟨g, 0, none⟩) N cp)) (i := 0) (v := .slice (some ⟨g, 0, none⟩) N cp) rfl
        refine ⟨rfl, .tuple #[.agg #[.slice (some ⟨g, 0, none⟩) N cp], .int .i64 0], by simp [results, Tryd.f22, go_sem, y3], .inr ⟨hr0, _, rfl, owns_base (owns_set how'.out h1.out.2 (by decide) _ _) (by omega)⟩, h1.out.1.1.1.setCell (p := ⟨w.heap.size + 1 + 1, 0, none⟩) (by simp; omega) _⟩
      · have hlt' : j < R.1.length := by omega
        have hlt2 : decide (j < R.1.length) = true := decide_eq_true hlt'
        obtain ⟨gl, cl', hve, hgl1, hgl2⟩ := World.ownsRow.form hl.out (by omega)
        cases hve
        have hglg : gl < g := hal gl rfl
        obtain ⟨x, hx⟩ : ∃ x, R.1[j]? = some x := ⟨_, List.getElem?_eq_getElem hlt'⟩
        have e1 : wr.cell? ⟨gl, j * 2, none⟩ = some (.int .i64 x.1) := by have := hl.out.cells (g := gl) rfl (2 * j) _ (wrs_at _ _ _ hx).1; rw [add_at] at this; rw [Nat.mul_comm]; simpa using this
        have e2 : wr.cell? ⟨gl, j * 2 + 1, none⟩ = some (.int .u64 x.2) := by have := hl.out.cells (g := gl) rfl (2 * j + 1) _ (wrs_at _ _ _ hx).2; rw [add_at] at this; rw [Nat.mul_comm]; simpa using this
        obtain ⟨hx0, hx1⟩ := HRP.out x (List.mem_of_getElem? hx)
        have y9 := blk_cell hbx.out (i := 0) (v := .slice (some ⟨g, 0, none⟩) N cp) rfl
        obtain ⟨⟨u1, o1⟩, p1, _, _⟩ := owns_cell (j := x.1.toNat * 2) how.out (by omega)
        obtain ⟨⟨u2, o2⟩, p2, _, _⟩ := owns_cell (j := x.1.toNat * 2 + 1) how.out (by omega)
        have HX := Lib.hid hx
        obtain ⟨x1, x2⟩ := x
        simp only at e1 e2 hx0 hx1 o1 p1 o2 p2
        have l0 : (0 : Int) ≤ (j : Int) := by omega
        have l1 : (j : Int) < (R.1.length : Int) := by omega
        clear hlt hj hx
        go_wp2
        refine bxh_start (S := fun W => W.cell? ⟨g9, 0, none⟩ = some (.slice (some ⟨g, 0, none⟩) N cp) ∧ W.cell? ⟨gl, j * 2, none⟩ = some (.int .i64 x1) ∧ W.cell? ⟨gl, j * 2 + 1, none⟩ = some (.int .u64 x2) ∧ True ∧ True ∧ True) (by kernel_rfl) ?_
        have hS : (fun W : World => W.cell? ⟨g9, 0, none⟩ = some (.slice (some ⟨g, 0, none⟩) N cp) ∧ W.cell? ⟨gl, j * 2, none⟩ = some (.int .i64 x1) ∧ W.cell? ⟨gl, j * 2 + 1, none⟩ = some (.int .u64 x2) ∧ True ∧ True ∧ True) wr.drew := ⟨y9, e1, e2, trivial, trivial, trivial⟩
        refine bxh_take (i := 0) (v := ?_) rfl (by kernel_rfl) (by kernel_rfl) (by kernel_rfl) (fun _ _ _ h => h) (Or.inl ⟨by kernel_rfl, ?_⟩) (by assumption) ?_; rotate_left; (intro w hSw; obtain ⟨q0, q1, q2, q3, q4, q5⟩ := hSw; go_simp <;> with_reducible rfl); (simp only [Act.put, List.getElem_toArray, List.getElem_cons_zero, List.getElem_cons_succ, List.setIfInBounds_toArray, List.set_cons_zero, List.set_cons_succ])
        refine bxh_take (i := 1) (v := ?_) rfl (by kernel_rfl) (by kernel_rfl) (by kernel_rfl) (fun _ _ _ h => h) (Or.inl ⟨by kernel_rfl, ?_⟩) (by assumption) ?_; rotate_left; (intro w hSw; obtain ⟨q0, q1, q2, q3, q4, q5⟩ := hSw; go_simp <;> with_reducible rfl); (simp only [Act.put, List.getElem_toArray, List.getElem_cons_zero, List.getElem_cons_succ, List.setIfInBounds_toArray, List.set_cons_zero, List.set_cons_succ])
        refine bxh_take (i := 2) (v := ?_) rfl (by kernel_rfl) (by kernel_rfl) (by kernel_rfl) (fun _ _ _ h => h) (Or.inl ⟨by kernel_rfl, ?_⟩) (by assumption) ?_; rotate_left; (intro w hSw; obtain ⟨q0, q1, q2, q3, q4, q5⟩ := hSw; go_simp <;> with_reducible rfl); (simp only [Act.put, List.getElem_toArray, List.getElem_cons_zero, List.getElem_cons_succ, List.setIfInBounds_toArray, List.set_cons_zero, List.set_cons_succ])
        refine bxh_take (i := 3) (v := ?_) rfl (by kernel_rfl) (by kernel_rfl) (by kernel_rfl) (fun _ _ _ h => h) (Or.inl ⟨by kernel_rfl, ?_⟩) (by assumption) ?_; rotate_left; (intro w hSw; obtain ⟨q0, q1, q2, q3, q4, q5⟩ := hSw; go_simp <;> with_reducible rfl); (simp only [Act.put, List.getElem_toArray, List.getElem_cons_zero, List.getElem_cons_succ, List.setIfInBounds_toArray, List.set_cons_zero, List.set_cons_succ])
        refine bxh_take (i := 4) (v := ?_) rfl (by kernel_rfl) (by kernel_rfl) (by kernel_rfl) (fun _ _ _ h => h) (Or.inl ⟨by kernel_rfl, ?_⟩) (by assumption) ?_; rotate_left; (intro w hSw; obtain ⟨q0, q1, q2, q3, q4, q5⟩ := hSw; go_simp <;> with_reducible rfl); (simp only [Act.put, List.getElem_toArray, List.getElem_cons_zero, List.getElem_cons_succ, List.setIfInBounds_toArray, List.set_cons_zero, List.set_cons_succ])
        refine bxh_take (i := 5) (v := ?_) rfl (by kernel_rfl) (by kernel_rfl) (by kernel_rfl) (fun _ _ _ h => h) (Or.inl ⟨by kernel_rfl, ?_⟩) (by assumption) ?_; rotate_left; (intro w hSw; obtain ⟨q0, q1, q2, q3, q4, q5⟩ := hSw; go_simp <;> with_reducible rfl); (simp only [Act.put, List.getElem_toArray, List.getElem_cons_zero, List.getElem_cons_succ, List.setIfInBounds_toArray, List.set_cons_zero, List.set_cons_succ])
        refine bxh_take (i := 6) (v := ?_) rfl (by kernel_rfl) (by kernel_rfl) (by kernel_rfl) (fun _ _ _ h => h) (Or.inl ⟨by kernel_rfl, ?_⟩) (by assumption) ?_; rotate_left; (intro w hSw; obtain ⟨q0, q1, q2, q3, q4, q5⟩ := hSw; go_simp <;> with_reducible rfl); (simp only [Act.put, List.getElem_toArray, List.getElem_cons_zero, List.getElem_cons_succ, List.setIfInBounds_toArray, List.set_cons_zero, List.set_cons_succ])
        refine bxh_take (i := 7) (v := ?_) rfl (by kernel_rfl) (by kernel_rfl) (by kernel_rfl) (fun _ _ _ h => h) (Or.inl ⟨by kernel_rfl, ?_⟩) (by assumption) ?_; rotate_left; (intro w hSw; obtain ⟨q0, q1, q2, q3, q4, q5⟩ := hSw; go_simp <;> with_reducible rfl); (simp only [Act.put, List.getElem_toArray, List.getElem_cons_zero, List.getElem_cons_succ, List.setIfInBounds_toArray, List.set_cons_zero, List.set_cons_succ])
        refine bxh_take (i := 8) (v := ?_) rfl (by kernel_rfl) (by kernel_rfl) (by kernel_rfl) (fun _ _ _ h => h) (Or.inl ⟨by kernel_rfl, ?_⟩) (by assumption) ?_; rotate_left; (intro w hSw; obtain ⟨q0, q1, q2, q3, q4, q5⟩ := hSw; go_simp <;> with_reducible rfl); (simp only [Act.put, List.getElem_toArray, List.getElem_cons_zero, List.getElem_cons_succ, List.setIfInBounds_toArray, List.set_cons_zero, List.set_cons_succ])
        refine bxh_take (i := 9) (v := ?_) rfl (by kernel_rfl) (by kernel_rfl) (by kernel_rfl) (fun _ _ _ h => h) (Or.inl ⟨by kernel_rfl, ?_⟩) (by assumption) ?_; rotate_left; (intro w hSw; obtain ⟨q0, q1, q2, q3, q4, q5⟩ := hSw; go_simp <;> with_reducible rfl); (simp only [Act.put, List.getElem_toArray, List.getElem_cons_zero, List.getElem_cons_succ, List.setIfInBounds_toArray, List.set_cons_zero, List.set_cons_succ])
        refine bxh_take (i := 10) (v := ?_) rfl (by kernel_rfl) (by kernel_rfl) (by kernel_rfl) (fun _ _ _ h => h) (Or.inl ⟨by kernel_rfl, ?_⟩) (by assumption) ?_; rotate_left; (intro w hSw; obtain ⟨q0, q1, q2, q3, q4, q5⟩ := hSw; go_simp <;> with_reducible rfl); (simp only [Act.put, List.getElem_toArray, List.getElem_cons_zero, List.getElem_cons_succ, List.setIfInBounds_toArray, List.set_cons_zero, List.set_cons_succ])
        refine bxh_take (i := 11) (v := ?_) rfl (by kernel_rfl) (by kernel_rfl) (by kernel_rfl) (fun _ _ _ h => h) (Or.inl ⟨by kernel_rfl, ?_⟩) (by assumption) ?_; rotate_left; (intro w hSw; obtain ⟨q0, q1, q2, q3, q4, q5⟩ := hSw; go_simp <;> with_reducible rfl); (simp only [Act.put, List.getElem_toArray, List.getElem_cons_zero, List.getElem_cons_succ, List.setIfInBounds_toArray, List.set_cons_zero, List.set_cons_succ])
        refine bxh_take (i := 12) (v := ?_) rfl (by kernel_rfl) (by kernel_rfl) (by kernel_rfl) (fun _ _ _ h => h) (Or.inl ⟨by kernel_rfl, ?_⟩) (by assumption) ?_; rotate_left; (intro w hSw; obtain ⟨q0, q1, q2, q3, q4, q5⟩ := hSw; go_simp <;> with_reducible rfl); (simp only [Act.put, List.getElem_toArray, List.getElem_cons_zero, List.getElem_cons_succ, List.setIfInBounds_toArray, List.set_cons_zero, List.set_cons_succ])
        refine bxh_take (i := 13) (v := ?_) rfl (by kernel_rfl) (by kernel_rfl) (by kernel_rfl) (fun _ _ _ h => h) (Or.inl ⟨by kernel_rfl, ?_⟩) (by assumption) ?_; rotate_left; (intro w hSw; obtain ⟨q0, q1, q2, q3, q4, q5⟩ := hSw; go_simp <;> with_reducible rfl); (simp only [Act.put, List.getElem_toArray, List.getElem_cons_zero, List.getElem_cons_succ, List.setIfInBounds_toArray, List.set_cons_zero, List.set_cons_succ])
        refine bxh_next (i := 14) (by kernel_rfl) rfl (fun K hK => ?_)
        go_simp
        have d1 := blk_far (b' := g) (i := x1.toNat * 2 + 1) (blk_far (b' := g) (i := x1.toNat * 2) hbx.out (by omega) (.int .u64 x2)) (by omega) (.int .i64 0)
        have d2 := owns_put (u := .int .i64 0) (j := x1.toNat * 2 + 1) (owns_put (u := .int .u64 x2) (j := x1.toNat * 2) how.out (by omega)) (by omega)
        have d3 := mw_set (g := g) (i := x1.toNat * 2 + 1) (mw_set (g := g) (i := x1.toNat * 2) h1.out hg2 (.int .u64 x2)) hg2 (.int .i64 0)
        have d4 := owns_ne (g := g) (i := x1.toNat * 2 + 1) (owns_ne (g := g) (i := x1.toNat * 2) hl.out (by omega) (.int .u64 x2)) (by omega) (.int .i64 0)
        have q1 := d4.cells (g := gl) rfl (2 * j) _ (wrs_at _ _ _ HX.out).1
        have q2 := d4.cells (g := gl) rfl (2 * j + 1) _ (wrs_at _ _ _ HX.out).2
        rw [add_at, Nat.mul_comm 2 j, Nat.zero_add] at q1 q2
        refine hK.out _ _ ⟨blk_cell d1 rfl, q1, q2, trivial, trivial, trivial⟩ (fun hS => ?_)
        clear hK K
        have D1 := Lib.hid d1
        have D2 := Lib.hid (show World.ownsRow (World.drew _) (w.heap.size + 1 + 1) 68 2 (.slice (some ⟨g, 0, none⟩) N cp) N (cls (layTo ms (R.1.take (j + 1)))) from by rw [List.take_add_one, HX.out, Option.toList_some, layTo_snoc, cls_set, Nat.mul_comm 2]; exact owns_below d2 (Below.refl _ _).drew)
        have D3 := Lib.hid (mw_call d3 (Below.refl _ _).drew)
        have D4 := Lib.hid (owns_below d4 (Below.refl _ _).drew)
        clear d1 d2 d3 d4 q1 q2 hS
        refine bxh_done (by kernel_rfl) ?_ _
        go_wp2
        go_roundw
        case rel => exact ⟨j + 1, by omega, by go_num, D1, D2, D3, D4⟩
        case measure => simp [intOf]; omega
  · rw [hr0]
    go_wp2
    have y3 := blk_cell (blk_set (i := 0) HT4.out.2 (.slice none 0 0)) (i := 0) (v := .slice none 0 0) rfl
    refine ⟨rfl, memE 2, ?_, .inl ⟨hr0, rfl⟩, HT4.out.1.1.1.setCell (p := ⟨w.heap.size + 1 + 1, 0, none⟩) (by simp; omega) _⟩
    simp [results, memE, Tryd.f22, go_sem, y3]

end Go.Proofs.YthigfjelgbdcfaaDoor
