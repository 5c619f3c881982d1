/- The contracts of region.Where and region.At, and of wlog's and the reference's places, whatever the input. -/
import Derived.Test.YthigfjelgbdcfaaDoorGRegE
import Derived.Test.YthigfjelgbdcfaaDoorGRound

namespace Go.Proofs.YthigfjelgbdcfaaDoor
open Go.RowKit Go.Shelf

attribute [local go_sem] Oper.semAt_some

abbrev partBlk (x : Part) : Obj := .cells #[.int .i64 x.1, .int .i64 x.2.1, .int .i64 x.2.2.1, .int .i64 x.2.2.2] 96 (0, 0)
abbrev one (v : Int) (t : TypeId) : Obj := .cells #[.int .i64 v] t (0, 0)

/-- no part of a list holds a place -/
def NoneIn (a : Int) (l : List Part) : Prop := ∀ x ∈ l, ¬ (x.2.2.1 ≤ a ∧ a < x.2.2.2)
theorem NoneIn.snoc {a : Int} {l : List Part} {x : Part} (h : NoneIn a l) (hx : ¬ (x.2.2.1 ≤ a ∧ a < x.2.2.2)) : NoneIn a (l ++ [x]) := by
  intro y hy
  rcases List.mem_append.1 hy with hy | hy
  · exact h y hy
  · simp only [List.mem_singleton] at hy
    subst hy
    exact hx
/-- one part of a list holds it, and three blocks tell which one -/
def FoundIn (a : Int) (b2 b3 b4 : Nat) (l : List Part) (W : World) : Prop :=
  ∃ x ∈ l, x.2.2.1 ≤ a ∧ a < x.2.2.2 ∧ W.heap[b2]? = some (one x.1 3) ∧ W.heap[b3]? = some (one x.2.1 3) ∧ W.heap[b4]? = some (one (IntKind.i64.wrap (a - x.2.2.1)) 3)
theorem FoundIn.own (a : Int) (b2 b3 b4 : Nat) : Own (fun (l : List Part) W => FoundIn a b2 b3 b4 l W) := by
  rintro s A B row ⟨x, hx, h1, h2, g2, g3, g4⟩ hg hr
  exact ⟨x, hx, h1, h2, blk_own g2 hg hr, blk_own g3 hg hr, blk_own g4 hg hr⟩

set_option linter.unusedSimpArgs false in
set_option maxRecDepth 100000 in
set_option maxHeartbeats 2000000 in
theorem rWhere_yes (k p c a : Int) (w : World) (ho : Objs w) (h : Fit k p c) : Calls Tryd.prog 37 #[conf k p c, .int .i64 a] w fun e w' => e = .returned (tri (whereN k p c a)) ∧ Below w.heap.size w w' := by
  have hF := fitsB_yes h
  have HO := Lib.hid ho
  have HF := Lib.hid h
  clear ho h
  refine (callsIn_wide (n := 4)).1 ?_
  refine callsIn_of_wp_marks Tryd.func37 rfl trivial ?_ rfl
  simp only [Tryd.ntmps37, List.size_toArray, List.length_cons, List.length_nil, Nat.reduceAdd, Nat.reduceSub, Array.replicate_succ, Array.replicate_zero, List.push_toArray, List.append_toArray, List.nil_append, List.cons_append]
  gi_wp2_with (first | (refine ⟨trivial, ?_⟩; gi_at_call 41; refine (callsIn_wide.2 (rFits _ _ _ _)).mono ?_; rintro e wc ⟨rfl, hbc⟩; have hBc : Below w.heap.size w wc := Below.trans (by repeat (first | exact Below.refl _ _ | assumption | refine Below.drew ?_ | refine Below.alloc ?_ (by first | omega | (simp; omega) | (simp; done)) _ | refine Below.setCell ?_ (by first | omega | (simp; omega) | (simp; done)) _)) (hbc.mono (by simp; omega)); obtain ⟨hcc, hfc⟩ := bcell hbc; have hzc := hbc.size) | (refine ⟨trivial, ?_⟩; gi_at_call 54; refine (callsIn_wide.2 (rParts _ _ _ _)).mono ?_; rintro e wd ⟨rfl, rfl⟩))
  have hq : ∀ (b : Nat) (o : Obj), b < wc.heap.size → (((((w.alloc (.cells #[.int .i64 k, .int .i64 p, .int .i64 c] 24)).alloc (one a 3)).alloc (one 0 3)).alloc (one 0 3)).alloc (one 0 3)).heap[b]? = some o → b < w.heap.size + 1 + 1 + 1 + 1 + 1 → wc.heap[b]? = some o := fun b o _ ho hb => (hbc.block b (by simp; omega)).trans ho
  have h1 := hq (w.heap.size + 1) (one a 3) (by simp at hzc; omega) (blk_alloc' (blk_alloc' (blk_alloc' (alloc_at _ _ (by simp))))) (by omega)
  have h2 := hq (w.heap.size + 1 + 1) (one 0 3) (by simp at hzc; omega) (blk_alloc' (blk_alloc' (alloc_at _ _ (by simp)))) (by omega)
  have h3 := hq (w.heap.size + 1 + 1 + 1) (one 0 3) (by simp at hzc; omega) (blk_alloc' (alloc_at _ _ (by simp))) (by omega)
  have h4 := hq (w.heap.size + 1 + 1 + 1 + 1) (one 0 3) (by simp at hzc; omega) (alloc_at _ _ (by simp)) (by omega)
  simp only [World.size_alloc] at hzc
  clear hbc hcc hfc hF hq
  obtain ⟨W0, hW0⟩ : ∃ W0, wc.alloc (.cells #[.int .i64 k, .int .i64 p, .int .i64 c] 24) = W0 := ⟨_, rfl⟩
  have hsz : W0.heap.size = wc.heap.size + 1 := by rw [← hW0]; simp
  have hB0 : Below w.heap.size w W0 := by rw [← hW0]; exact hBc.alloc hBc.size _
  have hbx : W0.heap[wc.heap.size]? = some (.cells #[.int .i64 k, .int .i64 p, .int .i64 c] 24 (0, 0)) := by rw [← hW0]; exact World.alloc_heap_new wc _
  replace h1 : W0.heap[w.heap.size + 1]? = some (one a 3) := by rw [← hW0]; exact blk_alloc' h1
  replace h2 : W0.heap[w.heap.size + 1 + 1]? = some (one 0 3) := by rw [← hW0]; exact blk_alloc' h2
  replace h3 : W0.heap[w.heap.size + 1 + 1 + 1]? = some (one 0 3) := by rw [← hW0]; exact blk_alloc' h3
  replace h4 : W0.heap[w.heap.size + 1 + 1 + 1 + 1]? = some (one 0 3) := by rw [← hW0]; exact blk_alloc' h4
  rw [hW0]
  clear hW0 hBc
  refine wpIn_rangeFunc_ownH rfl (by omega) (gf := 71) (lb := #[.pointer (some ⟨wc.heap.size, 0, none⟩)]) rfl trivial (enters_of Tryd.func71 (by kernel_rfl) rfl)
    (parts_stops (fun i => w.heap.size + 1 + 1 ≤ i ∧ i ≤ w.heap.size + 1 + 1 + 1 + 1) k p c HF.out wc.heap.size W0 (HO.out.below hB0) hbx (by omega) (fun i hi => by omega) _ (by omega)) KeepW.trans (fun W l o o' _ hl hc _ => KeepW.put W l o o' hl hc) (Below.refl _ _) (fun _ => rfl)
    (fun pre W => (((((NoneIn a pre) ∧ W.heap[w.heap.size + 1]? = some (one a 3)) ∧ W.heap[w.heap.size + 1 + 1]? = some (one 0 3)) ∧ W.heap[w.heap.size + 1 + 1 + 1]? = some (one 0 3)) ∧ W.heap[w.heap.size + 1 + 1 + 1 + 1]? = some (one 0 3)) ∧ Below w.heap.size w W)
    (fun cd pre W => (cd = .ret ∧ FoundIn a (w.heap.size + 1 + 1) (w.heap.size + 1 + 1 + 1) (w.heap.size + 1 + 1 + 1 + 1) pre W) ∧ Below w.heap.size w W)
    (OwnFrom.and (OwnFrom.and (OwnFrom.and (OwnFrom.and (OwnFrom.and (ownFrom_pure _ _) (Own.from (own_blk _ (fun _ => #[.int .i64 a]) _ _) _)) (Own.from (own_blk _ (fun _ => #[.int .i64 0]) _ _) _)) (Own.from (own_blk _ (fun _ => #[.int .i64 0]) _ _) _)) (Own.from (own_blk _ (fun _ => #[.int .i64 0]) _ _) _)) (ownFrom_below (Nat.le_refl _) (by omega)))
    (fun cd => OwnFrom.and (OwnFrom.and (ownFrom_pure _ (fun _ => cd = .ret)) (Own.from (FoundIn.own _ _ _ _) _)) (ownFrom_below (Nat.le_refl _) (by omega)))
    ⟨⟨⟨⟨⟨by intro x hx; simp at hx, h1⟩, h2⟩, h3⟩, h4⟩, hB0⟩
    (fun x a' W => ∃ Bx, w.heap.size + 1 + 1 + 1 + 1 < Bx ∧ W.heap[Bx]? = some (partBlk x) ∧
      a' = { tmps := #[conf k p c, .int .i64 a, .pointer (some ⟨w.heap.size, 0, none⟩), .pointer (some ⟨w.heap.size + 1, 0, none⟩), .pointer (some ⟨w.heap.size + 1 + 1, 0, none⟩), .pointer (some ⟨w.heap.size + 1 + 1 + 1, 0, none⟩), .pointer (some ⟨w.heap.size + 1 + 1 + 1 + 1, 0, none⟩), .pointer (some ⟨Bx, 0, none⟩), .agg #[.int .i64 k, .int .i64 p, .int .i64 c], .bool true, .agg #[.int .i64 k, .int .i64 p, .int .i64 c], .func (.func 71) #[] #[.pointer (some ⟨wc.heap.size, 0, none⟩)], .agg #[.int .i64 x.1, .int .i64 x.2.1, .int .i64 x.2.2.1, .int .i64 x.2.2.2], undef, undef, undef, undef, undef, undef, undef, undef, undef, undef, undef, undef, undef, undef, undef, undef, undef, undef], defers := [] })
    (fun x a' _ X Y row hs hg hr => by obtain ⟨Bx, h1, h2, h3⟩ := hs; exact ⟨Bx, h1, blk_own h2 hg (fun r e => (hr r e).2), h3⟩)
    ?assign ?body ?done ?stop
  case assign =>
    rintro l pre x W K ⟨⟨⟨⟨⟨hp, g1⟩, g2⟩, g3⟩, g4⟩, hB1⟩ hK
    gi_wp2
    have hz1 := hB1.size
    have := (Array.getElem?_eq_some_iff.1 g4).1
    exact hK _ _ ((KeepsOthers.alloc _ _).from _) (KeepW.of_below (blk_alloc W _)) ⟨⟨⟨⟨⟨hp, blk_alloc' g1⟩, blk_alloc' g2⟩, blk_alloc' g3⟩, blk_alloc' g4⟩, hB1.alloc hz1 _⟩ ⟨W.heap.size, by omega, World.alloc_heap_new W _, rfl⟩
  case body =>
    rintro l pre x a' W hl hr ⟨⟨⟨⟨⟨hp, g1⟩, g2⟩, g3⟩, g4⟩, hB1⟩ ⟨Bx, hBx, bX, rfl⟩ hlt
    have x0 := blk_cell bX (i := 0) (v := .int .i64 x.1) rfl
    have x1 := blk_cell bX (i := 1) (v := .int .i64 x.2.1) rfl
    have x2 := blk_cell bX (i := 2) (v := .int .i64 x.2.2.1) rfl
    have x3 := blk_cell bX (i := 3) (v := .int .i64 x.2.2.2) rfl
    have ca := blk_cell g1 (i := 0) (v := .int .i64 a) rfl
    have y2 := blk_cell g2 (i := 0) (v := .int .i64 0) rfl
    have y3 := blk_cell g3 (i := 0) (v := .int .i64 0) rfl
    have y4 := blk_cell g4 (i := 0) (v := .int .i64 0) rfl
    have f2 := blk_frozen g2 (i := 0)
    have f3 := blk_frozen g3 (i := 0)
    have f4 := blk_frozen g4 (i := 0)
    by_cases k1 : x.2.2.1 ≤ a
    · by_cases k2 : a < x.2.2.2
      · gi_wp2
        refine Code.wpIn_mono (Q := NrmAt { tmps := #[conf k p c, .int .i64 a, .pointer (some ⟨w.heap.size, 0, none⟩), .pointer (some ⟨w.heap.size + 1, 0, none⟩), .pointer (some ⟨w.heap.size + 1 + 1, 0, none⟩), .pointer (some ⟨w.heap.size + 1 + 1 + 1, 0, none⟩), .pointer (some ⟨w.heap.size + 1 + 1 + 1 + 1, 0, none⟩), .pointer (some ⟨Bx, 0, none⟩), .agg #[.int .i64 k, .int .i64 p, .int .i64 c], .bool true, .agg #[.int .i64 k, .int .i64 p, .int .i64 c], .func (.func 71) #[] #[.pointer (some ⟨wc.heap.size, 0, none⟩)], .agg #[.int .i64 x.1, .int .i64 x.2.1, .int .i64 x.2.2.1, .int .i64 x.2.2.2], .int .i64 a, .pointer (some ⟨Bx, 2, none⟩), .int .i64 x.2.2.1, .bool true, .bool true, .int .i64 a, .pointer (some ⟨Bx, 3, none⟩), .int .i64 x.2.2.2, .bool true, .bool true, .pointer (some ⟨Bx, 0, none⟩), .int .i64 x.1, .pointer (some ⟨Bx, 1, none⟩), .int .i64 x.2.1, .int .i64 a, .pointer (some ⟨Bx, 2, none⟩), .int .i64 x.2.2.1, .int .i64 (IntKind.i64.wrap (a - x.2.2.1))], defers := [] } (((W.setCell ⟨w.heap.size + 1 + 1, 0, none⟩ (.int .i64 x.1)).setCell ⟨w.heap.size + 1 + 1 + 1, 0, none⟩ (.int .i64 x.2.1)).setCell ⟨w.heap.size + 1 + 1 + 1 + 1, 0, none⟩ (.int .i64 (IntKind.i64.wrap (a - x.2.2.1)))).drew) ?next (wpIn_region_held (S := fun W' => W'.cell? ⟨Bx, 0, none⟩ = some (.int .i64 x.1) ∧ W'.cell? ⟨Bx, 1, none⟩ = some (.int .i64 x.2.1) ∧ W'.cell? ⟨Bx, 2, none⟩ = some (.int .i64 x.2.2.1) ∧ W'.cell? ⟨w.heap.size + 1, 0, none⟩ = some (.int .i64 a) ∧ True ∧ True ∧ True ∧ True ∧ True ∧ True) (by kernel_rfl) (by rfl) (fun _ _ => NrmAt.outgrown) ?reg)
        case' reg =>
          have hHeld : (fun W' : World => W'.cell? ⟨Bx, 0, none⟩ = some (.int .i64 x.1) ∧ W'.cell? ⟨Bx, 1, none⟩ = some (.int .i64 x.2.1) ∧ W'.cell? ⟨Bx, 2, none⟩ = some (.int .i64 x.2.2.1) ∧ W'.cell? ⟨w.heap.size + 1, 0, none⟩ = some (.int .i64 a) ∧ True ∧ True ∧ True ∧ True ∧ True ∧ True) W.drew := ⟨x0, x1, x2, ca, trivial, trivial, trivial, trivial, trivial, trivial⟩
          refine wpAnyH_take (i := 0) (v := ?_) rfl (by kernel_rfl) (by kernel_rfl) (by kernel_rfl) (fun _ _ _ h => h.panic) (Or.inl ⟨by rfl, ?_⟩) (by assumption) ?_; rotate_left; (intro w hSw; obtain ⟨q0, q1, q2, q3, q4, q5, q6, q7, q8, q9⟩ := hSw; clear q9; go_simp <;> with_reducible rfl); (simp only [Act.put, List.setIfInBounds_toArray, List.set_cons_zero, List.set_cons_succ])
          refine wpAnyH_take (i := 1) (v := ?_) rfl (by kernel_rfl) (by kernel_rfl) (by kernel_rfl) (fun _ _ _ h => h.panic) (Or.inl ⟨by rfl, ?_⟩) (by assumption) ?_; rotate_left; (intro w hSw; obtain ⟨q0, q1, q2, q3, q4, q5, q6, q7, q8, q9⟩ := hSw; clear q9; go_simp <;> with_reducible rfl); (simp only [Act.put, List.setIfInBounds_toArray, List.set_cons_zero, List.set_cons_succ])
          refine wpAnyH_take (i := 2) (v := ?_) rfl (by kernel_rfl) (by kernel_rfl) (by kernel_rfl) (fun _ _ _ h => h.panic) (Or.inl ⟨by rfl, ?_⟩) (by assumption) ?_; rotate_left; (intro w hSw; obtain ⟨q0, q1, q2, q3, q4, q5, q6, q7, q8, q9⟩ := hSw; clear q9; go_simp <;> with_reducible rfl); (simp only [Act.put, List.setIfInBounds_toArray, List.set_cons_zero, List.set_cons_succ])
          refine wpAnyH_take (i := 3) (v := ?_) rfl (by kernel_rfl) (by kernel_rfl) (by kernel_rfl) (fun _ _ _ h => h.panic) (Or.inl ⟨by rfl, ?_⟩) (by assumption) ?_; rotate_left; (intro w hSw; obtain ⟨q0, q1, q2, q3, q4, q5, q6, q7, q8, q9⟩ := hSw; clear q9; go_simp <;> with_reducible rfl); (simp only [Act.put, List.setIfInBounds_toArray, List.set_cons_zero, List.set_cons_succ])
          refine wpAnyH_take (i := 4) (v := ?_) rfl (by kernel_rfl) (by kernel_rfl) (by kernel_rfl) (fun _ _ _ h => h.panic) (Or.inl ⟨by rfl, ?_⟩) (by assumption) ?_; rotate_left; (intro w hSw; obtain ⟨q0, q1, q2, q3, q4, q5, q6, q7, q8, q9⟩ := hSw; clear q9; go_simp <;> with_reducible rfl); (simp only [Act.put, List.setIfInBounds_toArray, List.set_cons_zero, List.set_cons_succ])
          refine wpAnyH_take (i := 5) (v := ?_) rfl (by kernel_rfl) (by kernel_rfl) (by kernel_rfl) (fun _ _ _ h => h.panic) (Or.inl ⟨by rfl, ?_⟩) (by assumption) ?_; rotate_left; (intro w hSw; obtain ⟨q0, q1, q2, q3, q4, q5, q6, q7, q8, q9⟩ := hSw; clear q9; go_simp <;> with_reducible rfl); (simp only [Act.put, List.setIfInBounds_toArray, List.set_cons_zero, List.set_cons_succ])
          refine wpAnyH_take (i := 6) (v := ?_) rfl (by kernel_rfl) (by kernel_rfl) (by kernel_rfl) (fun _ _ _ h => h.panic) (Or.inl ⟨by rfl, ?_⟩) (by assumption) ?_; rotate_left; (intro w hSw; obtain ⟨q0, q1, q2, q3, q4, q5, q6, q7, q8, q9⟩ := hSw; clear q9; go_simp <;> with_reducible rfl); (simp only [Act.put, List.setIfInBounds_toArray, List.set_cons_zero, List.set_cons_succ])
          refine wpAnyH_take (i := 7) (v := ?_) rfl (by kernel_rfl) (by kernel_rfl) (by kernel_rfl) (fun _ _ _ h => h.panic) (Or.inl ⟨by rfl, ?_⟩) (by assumption) ?_; rotate_left; (intro w hSw; obtain ⟨q0, q1, q2, q3, q4, q5, q6, q7, q8, q9⟩ := hSw; clear q9; go_simp <;> with_reducible rfl); (simp only [Act.put, List.setIfInBounds_toArray, List.set_cons_zero, List.set_cons_succ])
          refine wpAnyH_ready (rs := [8]) (by kernel_rfl) (by simp) ?_; refine AllReadyH.cons rfl (fun K hK => ?_) AllReadyH.nil; go_simp; refine hK.out _ _ ?_ (fun hHeld => ?_)
          · refine ⟨?_, ?_, ?_, ?_, trivial, trivial, trivial, trivial, trivial, trivial⟩ <;> (try simp only [World.cell?_drew]; rw [World.cell?_setCell_far _ _ _ _ (by first | (simp; omega) | (simp; done))]; first | exact hHeld.1 | exact hHeld.2.1 | exact hHeld.2.2.1 | exact hHeld.2.2.2.1)
          refine wpAnyH_ready (rs := [9]) (by kernel_rfl) (by simp) ?_; refine AllReadyH.cons rfl (fun K hK => ?_) AllReadyH.nil; go_simp; refine hK.out _ _ ?_ (fun hHeld => ?_)
          · refine ⟨?_, ?_, ?_, ?_, trivial, trivial, trivial, trivial, trivial, trivial⟩ <;> (try simp only [World.cell?_drew]; rw [World.cell?_setCell_far _ _ _ _ (by first | (simp; omega) | (simp; done))]; first | exact hHeld.1 | exact hHeld.2.1 | exact hHeld.2.2.1 | exact hHeld.2.2.2.1)
          refine wpAnyH_ready (rs := [10]) (by kernel_rfl) (by simp) ?_; refine AllReadyH.cons rfl (fun K hK => ?_) AllReadyH.nil; go_simp; refine hK.out _ _ ?_ (fun hHeld => ?_)
          · refine ⟨?_, ?_, ?_, ?_, trivial, trivial, trivial, trivial, trivial, trivial⟩ <;> (try simp only [World.cell?_drew]; rw [World.cell?_setCell_far _ _ _ _ (by first | (simp; omega) | (simp; done))]; first | exact hHeld.1 | exact hHeld.2.1 | exact hHeld.2.2.1 | exact hHeld.2.2.2.1)
          refine wpAnyH_done (by kernel_rfl) ?_ _
          exact ⟨rfl, rfl, rfl⟩
        case next =>
          rintro e a2 w2 ⟨rfl, rfl, rfl⟩
          clear x0 x1 x2 x3 ca y2 y3 y4 f2 f3 f4
          simp only [Exit.then]
          gi_wp2
          refine ⟨((((KeepsOthers.setCell _ _ _).trans (KeepsOthers.setCell _ _ _)).trans (KeepsOthers.setCell _ _ _)).trans (KeepsOthers.drew _)).from _, ⟨rfl, x, by simp, k1, k2, ?_, ?_, ?_⟩, ((((hB1.setCell (p := ⟨w.heap.size + 1 + 1, 0, none⟩) (by simp; omega) _).setCell (p := ⟨w.heap.size + 1 + 1 + 1, 0, none⟩) (by simp; omega) _).setCell (p := ⟨w.heap.size + 1 + 1 + 1 + 1, 0, none⟩) (by simp; omega) _).drew)⟩
          · exact blk_far (blk_far (blk_set g2 _) (by omega) _) (by omega) _
          · exact blk_far (blk_set (blk_far g3 (by omega) _) _) (by omega) _
          · exact blk_set (blk_far (blk_far g4 (by omega) _) (by omega) _) _
      · gi_wp2
        exact ⟨(KeepsOthers.refl _).from _, KeepW.refl _ _, ⟨⟨⟨⟨⟨hp.snoc (by omega), g1⟩, g2⟩, g3⟩, g4⟩, hB1⟩⟩
    · gi_wp2
      exact ⟨(KeepsOthers.refl _).from _, KeepW.refl _ _, ⟨⟨⟨⟨⟨hp.snoc (by omega), g1⟩, g2⟩, g3⟩, g4⟩, hB1⟩⟩
  case done =>
    rintro D ys W hD rfl ⟨⟨⟨⟨⟨hp, g1⟩, g2⟩, g3⟩, g4⟩, hB1⟩ hK
    have hw := Lib.hid (where_none HF.out hp)
    have y2 := blk_cell g2 (i := 0) (v := .int .i64 0) rfl
    have y3 := blk_cell g3 (i := 0) (v := .int .i64 0) rfl
    have y4 := blk_cell g4 (i := 0) (v := .int .i64 0) rfl
    have f2 := blk_frozen g2 (i := 0)
    have f3 := blk_frozen g3 (i := 0)
    have f4 := blk_frozen g4 (i := 0)
    gi_wp2
    have hK' := (((KeepsOthers.setCell W ⟨w.heap.size + 1 + 1, 0, none⟩ (.int .i64 5)).trans (KeepsOthers.setCell _ ⟨w.heap.size + 1 + 1 + 1, 0, none⟩ (.int .i64 0))).trans (KeepsOthers.setCell _ ⟨w.heap.size + 1 + 1 + 1 + 1, 0, none⟩ (.int .i64 0))).same D _ hK rfl
    refine ⟨by simp, .inl ⟨_, _, rfl, run_takeDeferred hK', ?_⟩⟩
    have c2 := blk_cell (blk_put (o' := .deferred none) (blk_far (blk_far (blk_set g2 (.int .i64 5) (i := 0)) (i := 0) (by omega) (.int .i64 0)) (i := 0) (by omega) (.int .i64 0)) hK' rfl) (i := 0) (v := .int .i64 5) rfl
    have c3 := blk_cell (blk_put (o' := .deferred none) (blk_far (blk_set (blk_far g3 (i := 0) (by omega) (.int .i64 5)) (i := 0) (.int .i64 0)) (i := 0) (by omega) (.int .i64 0)) hK' rfl) (i := 0) (v := .int .i64 0) rfl
    have c4 := blk_cell (blk_put (o' := .deferred none) (blk_set (blk_far (blk_far g4 (i := 0) (by omega) (.int .i64 5)) (i := 0) (by omega) (.int .i64 0)) (i := 0) (.int .i64 0)) hK' rfl) (i := 0) (v := .int .i64 0) rfl
    refine ⟨tri (5, 0, 0), ?_, by rw [hw.out], below_putD (((hB1.setCell (p := ⟨w.heap.size + 1 + 1, 0, none⟩) (by simp; omega) _).setCell (p := ⟨w.heap.size + 1 + 1 + 1, 0, none⟩) (by simp; omega) _).setCell (p := ⟨w.heap.size + 1 + 1 + 1 + 1, 0, none⟩) (by simp; omega) _) hK' (by omega) (by have := hB1.size; simpa using this)⟩
    simp [results, tri, Tryd.f37, go_sem, c2, c3, c4]
  case stop =>
    rintro D c' pre W hD hpre ⟨⟨rfl, x, hx, hx1, hx2, g2, g3, g4⟩, hB1⟩ hK
    have hw := where_found HF.out (hpre.subset hx) hx1 hx2
    have hm := mem_bd HF.out (hpre.subset hx)
    rw [w64 (by omega) (by omega)] at g4
    gi_wp2
    refine ⟨by simp, .inl ⟨_, _, rfl, run_takeDeferred hK, ?_⟩⟩
    have c2 := blk_cell (blk_put (o' := .deferred none) g2 hK rfl) (i := 0) (v := .int .i64 x.1) rfl
    have c3 := blk_cell (blk_put (o' := .deferred none) g3 hK rfl) (i := 0) (v := .int .i64 x.2.1) rfl
    have c4 := blk_cell (blk_put (o' := .deferred none) g4 hK rfl) (i := 0) (v := .int .i64 (a - x.2.2.1)) rfl
    refine ⟨tri (x.1, x.2.1, a - x.2.2.1), ?_, by rw [hw], below_putD hB1 hK (by omega) (by have := hB1.size; simpa using this)⟩
    simp [results, tri, Tryd.f37, go_sem, c2, c3, c4]

theorem rWhere_no (k p c a : Int) (w : World) (h : ¬ Fit k p c) : Calls Tryd.prog 37 #[conf k p c, .int .i64 a] w fun e w' => e = .returned (tri (whereN k p c a)) ∧ Below w.heap.size w w' := by
  have hw := Lib.hid (where_no (a := a) (.inl h))
  have hF := fitsB_no h
  clear h
  refine (callsIn_wide (n := 4)).1 ?_
  refine callsIn_of_wp_marks Tryd.func37 rfl trivial ?_ rfl
  simp only [Tryd.ntmps37, List.size_toArray, List.length_cons, List.length_nil, Nat.reduceAdd, Nat.reduceSub, Array.replicate_succ, Array.replicate_zero, List.push_toArray, List.append_toArray, List.nil_append, List.cons_append]
  gi_wp2_with (first | (refine ⟨trivial, ?_⟩; gi_at_call 41; refine (callsIn_wide.2 (rFits _ _ _ _)).mono ?_; rintro e wc ⟨rfl, hbc⟩; have hBc : Below w.heap.size w wc := Below.trans (by repeat (first | exact Below.refl _ _ | assumption | refine Below.drew ?_ | refine Below.alloc ?_ (by first | omega | (simp; omega) | (simp; done)) _ | refine Below.setCell ?_ (by first | omega | (simp; omega) | (simp; done)) _)) (hbc.mono (by simp; omega)); have hq : ∀ (b : Nat) (o : Obj), (((((w.alloc (.cells #[.int .i64 k, .int .i64 p, .int .i64 c] 24)).alloc (one a 3)).alloc (one 0 3)).alloc (one 0 3)).alloc (one 0 3)).heap[b]? = some o → b < w.heap.size + 1 + 1 + 1 + 1 + 1 → wc.heap[b]? = some o := (fun b o ho hb => (hbc.block b (by simp; omega)).trans ho); have h2 := hq (w.heap.size + 1 + 1) (one 0 3) (blk_alloc' (blk_alloc' (alloc_at _ _ (by simp)))) (by omega); have h3 := hq (w.heap.size + 1 + 1 + 1) (one 0 3) (blk_alloc' (alloc_at _ _ (by simp))) (by omega); have h4 := hq (w.heap.size + 1 + 1 + 1 + 1) (one 0 3) (alloc_at _ _ (by simp)) (by omega); have y2 := blk_cell h2 (i := 0) (v := .int .i64 0) rfl; have y3 := blk_cell h3 (i := 0) (v := .int .i64 0) rfl; have y4 := blk_cell h4 (i := 0) (v := .int .i64 0) rfl; have f2 := blk_frozen h2 (i := 0); have f3 := blk_frozen h3 (i := 0); have f4 := blk_frozen h4 (i := 0); clear hq hbc))
  have c2 := blk_cell (blk_far (b' := w.heap.size + 1 + 1 + 1 + 1) (blk_far (b' := w.heap.size + 1 + 1 + 1) (blk_set h2 (.int .i64 5) (i := 0)) (i := 0) (by omega) (.int .i64 0)) (i := 0) (by omega) (.int .i64 0)) (i := 0) (v := .int .i64 5) rfl
  have c3 := blk_cell (blk_far (b' := w.heap.size + 1 + 1 + 1 + 1) (blk_set (blk_far (b' := w.heap.size + 1 + 1) h3 (i := 0) (by omega) (.int .i64 5)) (i := 0) (.int .i64 0)) (i := 0) (by omega) (.int .i64 0)) (i := 0) (v := .int .i64 0) rfl
  have c4 := blk_cell (blk_set (blk_far (b' := w.heap.size + 1 + 1 + 1) (blk_far (b' := w.heap.size + 1 + 1) h4 (i := 0) (by omega) (.int .i64 5)) (i := 0) (by omega) (.int .i64 0)) (i := 0) (.int .i64 0)) (i := 0) (v := .int .i64 0) rfl
  refine ⟨tri (5, 0, 0), ?_, by rw [hw.out], (((hBc.setCell (p := ⟨w.heap.size + 1 + 1, 0, none⟩) (by simp; omega) _).setCell (p := ⟨w.heap.size + 1 + 1 + 1, 0, none⟩) (by simp; omega) _).setCell (p := ⟨w.heap.size + 1 + 1 + 1 + 1, 0, none⟩) (by simp; omega) _)⟩
  simp [results, tri, Tryd.f37, go_sem, c2, c3, c4]

theorem rWhere (k p c a : Int) (w : World) (ho : Objs w) : Calls Tryd.prog 37 #[conf k p c, .int .i64 a] w fun e w' => e = .returned (tri (whereN k p c a)) ∧ Below w.heap.size w w' := by
  by_cases h : Fit k p c
  · exact rWhere_yes k p c a w ho h
  · exact rWhere_no k p c a w h

end Go.Proofs.YthigfjelgbdcfaaDoor

namespace Go.Proofs.YthigfjelgbdcfaaDoor
open Go.RowKit Go.Shelf

attribute [local go_sem] Oper.semAt_some

abbrev atErr (e : Int) : Obj := .cells #[.int .i64 e] 36 (0, 0)

set_option maxRecDepth 100000 in
theorem rAt_conf (k p c i q : Int) (w : World) (h : ¬ Fit k p c) : Calls Tryd.prog 27 #[conf k p c, .int .i64 i, .int .i64 q] w fun e w' => e = .returned (.tuple #[.int .i64 0, .int .i64 5]) ∧ Below w.heap.size w w' := by
  have hF := fitsB_no h
  clear h
  refine (callsIn_wide (n := 4)).1 ?_
  refine callsIn_of_wp_marks Tryd.func27 rfl trivial ?_ rfl
  simp only [Tryd.ntmps27, List.size_toArray, List.length_cons, List.length_nil, Nat.reduceAdd, Nat.reduceSub, Array.replicate_succ, Array.replicate_zero, List.push_toArray, List.append_toArray, List.nil_append, List.cons_append]
  gi_wp2_with (first | (refine ⟨trivial, ?_⟩; gi_at_call 41; refine (callsIn_wide.2 (rFits _ _ _ _)).mono ?_; rintro e wc ⟨rfl, hbc⟩; have hBc : Below w.heap.size w wc := Below.trans (by repeat (first | exact Below.refl _ _ | assumption | refine Below.drew ?_ | refine Below.alloc ?_ (by first | omega | (simp; omega) | (simp; done)) _ | refine Below.setCell ?_ (by first | omega | (simp; omega) | (simp; done)) _)) (hbc.mono (by simp; omega)); have hzc := hbc.size; simp at hzc; have hq : ∀ (b : Nat) (o : Obj), (((((w.alloc (.cells #[.int .i64 k, .int .i64 p, .int .i64 c] 24)).alloc (one i 3)).alloc (one q 3)).alloc (one 0 3)).alloc (atErr 0)).heap[b]? = some o → b < w.heap.size + 1 + 1 + 1 + 1 + 1 → wc.heap[b]? = some o := (fun b o ho hb => (hbc.block b (by simp; omega)).trans ho); have h0 := hq (w.heap.size) (.cells #[.int .i64 k, .int .i64 p, .int .i64 c] 24) (blk_alloc' (blk_alloc' (blk_alloc' (blk_alloc' (alloc_at _ _ (by simp)))))) (by omega); have h1 := hq (w.heap.size + 1) (one i 3) (blk_alloc' (blk_alloc' (blk_alloc' (alloc_at _ _ (by simp))))) (by omega); have h2 := hq (w.heap.size + 1 + 1) (one q 3) (blk_alloc' (blk_alloc' (alloc_at _ _ (by simp)))) (by omega); have h3 := hq (w.heap.size + 1 + 1 + 1) (one 0 3) (blk_alloc' (alloc_at _ _ (by simp))) (by omega); have h4 := hq (w.heap.size + 1 + 1 + 1 + 1) (atErr 0) (alloc_at _ _ (by simp)) (by omega); have y0 := blk_cell h0 (i := 0) (v := .int .i64 k) rfl; have y01 := blk_cell h0 (i := 1) (v := .int .i64 p) rfl; have y02 := blk_cell h0 (i := 2) (v := .int .i64 c) rfl; have y1 := blk_cell h1 (i := 0) (v := .int .i64 i) rfl; have y2 := blk_cell h2 (i := 0) (v := .int .i64 q) rfl; have y3 := blk_cell h3 (i := 0) (v := .int .i64 0) rfl; have y4 := blk_cell h4 (i := 0) (v := .int .i64 0) rfl; have f2 := blk_frozen h2 (i := 0); have f3 := blk_frozen h3 (i := 0); have f4 := blk_frozen h4 (i := 0); clear hq; clear hbc))
  have c3 := blk_cell (blk_far (b' := w.heap.size + 1 + 1 + 1 + 1) (blk_set h3 (.int .i64 0) (i := 0)) (i := 0) (by omega) (.int .i64 5)) (i := 0) (v := .int .i64 0) rfl
  have c4 := blk_cell (blk_set (blk_far (b' := w.heap.size + 1 + 1 + 1) h4 (i := 0) (by omega) (.int .i64 0)) (i := 0) (.int .i64 5)) (i := 0) (v := .int .i64 5) rfl
  refine ⟨.tuple #[.int .i64 0, .int .i64 5], ?_, rfl, ((hBc.setCell (p := ⟨w.heap.size + 1 + 1 + 1, 0, none⟩) (by simp; omega) _).setCell (p := ⟨w.heap.size + 1 + 1 + 1 + 1, 0, none⟩) (by simp; omega) _)⟩
  simp [results, Tryd.f27, go_sem, c3, c4]

set_option maxRecDepth 100000 in
theorem rAt_arg (k p c i q : Int) (w : World) (h : Fit k p c) (ha : i < 0 ∨ 4 < i ∨ q < 0 ∨ p ≤ q) : Calls Tryd.prog 27 #[conf k p c, .int .i64 i, .int .i64 q] w fun e w' => e = .returned (.tuple #[.int .i64 0, .int .i64 1]) ∧ Below w.heap.size w w' := by
  have hF := fitsB_yes h
  clear h
  refine (callsIn_wide (n := 4)).1 ?_
  refine callsIn_of_wp_marks Tryd.func27 rfl trivial ?_ rfl
  simp only [Tryd.ntmps27, List.size_toArray, List.length_cons, List.length_nil, Nat.reduceAdd, Nat.reduceSub, Array.replicate_succ, Array.replicate_zero, List.push_toArray, List.append_toArray, List.nil_append, List.cons_append]
  by_cases k1 : i < 0
  case pos =>
    clear ha
    gi_wp2_with (first | (refine ⟨trivial, ?_⟩; gi_at_call 41; refine (callsIn_wide.2 (rFits _ _ _ _)).mono ?_; rintro e wc ⟨rfl, hbc⟩; have hBc : Below w.heap.size w wc := Below.trans (by repeat (first | exact Below.refl _ _ | assumption | refine Below.drew ?_ | refine Below.alloc ?_ (by first | omega | (simp; omega) | (simp; done)) _ | refine Below.setCell ?_ (by first | omega | (simp; omega) | (simp; done)) _)) (hbc.mono (by simp; omega)); have hzc := hbc.size; simp at hzc; have hq : ∀ (b : Nat) (o : Obj), (((((w.alloc (.cells #[.int .i64 k, .int .i64 p, .int .i64 c] 24)).alloc (one i 3)).alloc (one q 3)).alloc (one 0 3)).alloc (atErr 0)).heap[b]? = some o → b < w.heap.size + 1 + 1 + 1 + 1 + 1 → wc.heap[b]? = some o := (fun b o ho hb => (hbc.block b (by simp; omega)).trans ho); have h0 := hq (w.heap.size) (.cells #[.int .i64 k, .int .i64 p, .int .i64 c] 24) (blk_alloc' (blk_alloc' (blk_alloc' (blk_alloc' (alloc_at _ _ (by simp)))))) (by omega); have h1 := hq (w.heap.size + 1) (one i 3) (blk_alloc' (blk_alloc' (blk_alloc' (alloc_at _ _ (by simp))))) (by omega); have h2 := hq (w.heap.size + 1 + 1) (one q 3) (blk_alloc' (blk_alloc' (alloc_at _ _ (by simp)))) (by omega); have h3 := hq (w.heap.size + 1 + 1 + 1) (one 0 3) (blk_alloc' (alloc_at _ _ (by simp))) (by omega); have h4 := hq (w.heap.size + 1 + 1 + 1 + 1) (atErr 0) (alloc_at _ _ (by simp)) (by omega); have y0 := blk_cell h0 (i := 0) (v := .int .i64 k) rfl; have y01 := blk_cell h0 (i := 1) (v := .int .i64 p) rfl; have y02 := blk_cell h0 (i := 2) (v := .int .i64 c) rfl; have y1 := blk_cell h1 (i := 0) (v := .int .i64 i) rfl; have y2 := blk_cell h2 (i := 0) (v := .int .i64 q) rfl; have y3 := blk_cell h3 (i := 0) (v := .int .i64 0) rfl; have y4 := blk_cell h4 (i := 0) (v := .int .i64 0) rfl; have f2 := blk_frozen h2 (i := 0); have f3 := blk_frozen h3 (i := 0); have f4 := blk_frozen h4 (i := 0); clear hq; clear hbc))
    have c3 := blk_cell (blk_far (b' := w.heap.size + 1 + 1 + 1 + 1) (blk_set h3 (.int .i64 0) (i := 0)) (i := 0) (by omega) (.int .i64 1)) (i := 0) (v := .int .i64 0) rfl
    have c4 := blk_cell (blk_set (blk_far (b' := w.heap.size + 1 + 1 + 1) h4 (i := 0) (by omega) (.int .i64 0)) (i := 0) (.int .i64 1)) (i := 0) (v := .int .i64 1) rfl
    refine ⟨.tuple #[.int .i64 0, .int .i64 1], ?_, rfl, ((hBc.setCell (p := ⟨w.heap.size + 1 + 1 + 1, 0, none⟩) (by simp; omega) _).setCell (p := ⟨w.heap.size + 1 + 1 + 1 + 1, 0, none⟩) (by simp; omega) _)⟩
    simp [results, Tryd.f27, go_sem, c3, c4]
  by_cases k2 : 4 < i
  case pos =>
    clear ha
    gi_wp2_with (first | (refine ⟨trivial, ?_⟩; gi_at_call 41; refine (callsIn_wide.2 (rFits _ _ _ _)).mono ?_; rintro e wc ⟨rfl, hbc⟩; have hBc : Below w.heap.size w wc := Below.trans (by repeat (first | exact Below.refl _ _ | assumption | refine Below.drew ?_ | refine Below.alloc ?_ (by first | omega | (simp; omega) | (simp; done)) _ | refine Below.setCell ?_ (by first | omega | (simp; omega) | (simp; done)) _)) (hbc.mono (by simp; omega)); have hzc := hbc.size; simp at hzc; have hq : ∀ (b : Nat) (o : Obj), (((((w.alloc (.cells #[.int .i64 k, .int .i64 p, .int .i64 c] 24)).alloc (one i 3)).alloc (one q 3)).alloc (one 0 3)).alloc (atErr 0)).heap[b]? = some o → b < w.heap.size + 1 + 1 + 1 + 1 + 1 → wc.heap[b]? = some o := (fun b o ho hb => (hbc.block b (by simp; omega)).trans ho); have h0 := hq (w.heap.size) (.cells #[.int .i64 k, .int .i64 p, .int .i64 c] 24) (blk_alloc' (blk_alloc' (blk_alloc' (blk_alloc' (alloc_at _ _ (by simp)))))) (by omega); have h1 := hq (w.heap.size + 1) (one i 3) (blk_alloc' (blk_alloc' (blk_alloc' (alloc_at _ _ (by simp))))) (by omega); have h2 := hq (w.heap.size + 1 + 1) (one q 3) (blk_alloc' (blk_alloc' (alloc_at _ _ (by simp)))) (by omega); have h3 := hq (w.heap.size + 1 + 1 + 1) (one 0 3) (blk_alloc' (alloc_at _ _ (by simp))) (by omega); have h4 := hq (w.heap.size + 1 + 1 + 1 + 1) (atErr 0) (alloc_at _ _ (by simp)) (by omega); have y0 := blk_cell h0 (i := 0) (v := .int .i64 k) rfl; have y01 := blk_cell h0 (i := 1) (v := .int .i64 p) rfl; have y02 := blk_cell h0 (i := 2) (v := .int .i64 c) rfl; have y1 := blk_cell h1 (i := 0) (v := .int .i64 i) rfl; have y2 := blk_cell h2 (i := 0) (v := .int .i64 q) rfl; have y3 := blk_cell h3 (i := 0) (v := .int .i64 0) rfl; have y4 := blk_cell h4 (i := 0) (v := .int .i64 0) rfl; have f2 := blk_frozen h2 (i := 0); have f3 := blk_frozen h3 (i := 0); have f4 := blk_frozen h4 (i := 0); clear hq; clear hbc))
    have c3 := blk_cell (blk_far (b' := w.heap.size + 1 + 1 + 1 + 1) (blk_set h3 (.int .i64 0) (i := 0)) (i := 0) (by omega) (.int .i64 1)) (i := 0) (v := .int .i64 0) rfl
    have c4 := blk_cell (blk_set (blk_far (b' := w.heap.size + 1 + 1 + 1) h4 (i := 0) (by omega) (.int .i64 0)) (i := 0) (.int .i64 1)) (i := 0) (v := .int .i64 1) rfl
    refine ⟨.tuple #[.int .i64 0, .int .i64 1], ?_, rfl, ((hBc.setCell (p := ⟨w.heap.size + 1 + 1 + 1, 0, none⟩) (by simp; omega) _).setCell (p := ⟨w.heap.size + 1 + 1 + 1 + 1, 0, none⟩) (by simp; omega) _)⟩
    simp [results, Tryd.f27, go_sem, c3, c4]
  by_cases k3 : q < 0
  case pos =>
    clear ha
    gi_wp2_with (first | (refine ⟨trivial, ?_⟩; gi_at_call 41; refine (callsIn_wide.2 (rFits _ _ _ _)).mono ?_; rintro e wc ⟨rfl, hbc⟩; have hBc : Below w.heap.size w wc := Below.trans (by repeat (first | exact Below.refl _ _ | assumption | refine Below.drew ?_ | refine Below.alloc ?_ (by first | omega | (simp; omega) | (simp; done)) _ | refine Below.setCell ?_ (by first | omega | (simp; omega) | (simp; done)) _)) (hbc.mono (by simp; omega)); have hzc := hbc.size; simp at hzc; have hq : ∀ (b : Nat) (o : Obj), (((((w.alloc (.cells #[.int .i64 k, .int .i64 p, .int .i64 c] 24)).alloc (one i 3)).alloc (one q 3)).alloc (one 0 3)).alloc (atErr 0)).heap[b]? = some o → b < w.heap.size + 1 + 1 + 1 + 1 + 1 → wc.heap[b]? = some o := (fun b o ho hb => (hbc.block b (by simp; omega)).trans ho); have h0 := hq (w.heap.size) (.cells #[.int .i64 k, .int .i64 p, .int .i64 c] 24) (blk_alloc' (blk_alloc' (blk_alloc' (blk_alloc' (alloc_at _ _ (by simp)))))) (by omega); have h1 := hq (w.heap.size + 1) (one i 3) (blk_alloc' (blk_alloc' (blk_alloc' (alloc_at _ _ (by simp))))) (by omega); have h2 := hq (w.heap.size + 1 + 1) (one q 3) (blk_alloc' (blk_alloc' (alloc_at _ _ (by simp)))) (by omega); have h3 := hq (w.heap.size + 1 + 1 + 1) (one 0 3) (blk_alloc' (alloc_at _ _ (by simp))) (by omega); have h4 := hq (w.heap.size + 1 + 1 + 1 + 1) (atErr 0) (alloc_at _ _ (by simp)) (by omega); have y0 := blk_cell h0 (i := 0) (v := .int .i64 k) rfl; have y01 := blk_cell h0 (i := 1) (v := .int .i64 p) rfl; have y02 := blk_cell h0 (i := 2) (v := .int .i64 c) rfl; have y1 := blk_cell h1 (i := 0) (v := .int .i64 i) rfl; have y2 := blk_cell h2 (i := 0) (v := .int .i64 q) rfl; have y3 := blk_cell h3 (i := 0) (v := .int .i64 0) rfl; have y4 := blk_cell h4 (i := 0) (v := .int .i64 0) rfl; have f2 := blk_frozen h2 (i := 0); have f3 := blk_frozen h3 (i := 0); have f4 := blk_frozen h4 (i := 0); clear hq; clear hbc))
    have c3 := blk_cell (blk_far (b' := w.heap.size + 1 + 1 + 1 + 1) (blk_set h3 (.int .i64 0) (i := 0)) (i := 0) (by omega) (.int .i64 1)) (i := 0) (v := .int .i64 0) rfl
    have c4 := blk_cell (blk_set (blk_far (b' := w.heap.size + 1 + 1 + 1) h4 (i := 0) (by omega) (.int .i64 0)) (i := 0) (.int .i64 1)) (i := 0) (v := .int .i64 1) rfl
    refine ⟨.tuple #[.int .i64 0, .int .i64 1], ?_, rfl, ((hBc.setCell (p := ⟨w.heap.size + 1 + 1 + 1, 0, none⟩) (by simp; omega) _).setCell (p := ⟨w.heap.size + 1 + 1 + 1 + 1, 0, none⟩) (by simp; omega) _)⟩
    simp [results, Tryd.f27, go_sem, c3, c4]
  have k4 : p ≤ q := by omega

  clear ha
  gi_wp2_with (first | (refine ⟨trivial, ?_⟩; gi_at_call 41; refine (callsIn_wide.2 (rFits _ _ _ _)).mono ?_; rintro e wc ⟨rfl, hbc⟩; have hBc : Below w.heap.size w wc := Below.trans (by repeat (first | exact Below.refl _ _ | assumption | refine Below.drew ?_ | refine Below.alloc ?_ (by first | omega | (simp; omega) | (simp; done)) _ | refine Below.setCell ?_ (by first | omega | (simp; omega) | (simp; done)) _)) (hbc.mono (by simp; omega)); have hzc := hbc.size; simp at hzc; have hq : ∀ (b : Nat) (o : Obj), (((((w.alloc (.cells #[.int .i64 k, .int .i64 p, .int .i64 c] 24)).alloc (one i 3)).alloc (one q 3)).alloc (one 0 3)).alloc (atErr 0)).heap[b]? = some o → b < w.heap.size + 1 + 1 + 1 + 1 + 1 → wc.heap[b]? = some o := (fun b o ho hb => (hbc.block b (by simp; omega)).trans ho); have h0 := hq (w.heap.size) (.cells #[.int .i64 k, .int .i64 p, .int .i64 c] 24) (blk_alloc' (blk_alloc' (blk_alloc' (blk_alloc' (alloc_at _ _ (by simp)))))) (by omega); have h1 := hq (w.heap.size + 1) (one i 3) (blk_alloc' (blk_alloc' (blk_alloc' (alloc_at _ _ (by simp))))) (by omega); have h2 := hq (w.heap.size + 1 + 1) (one q 3) (blk_alloc' (blk_alloc' (alloc_at _ _ (by simp)))) (by omega); have h3 := hq (w.heap.size + 1 + 1 + 1) (one 0 3) (blk_alloc' (alloc_at _ _ (by simp))) (by omega); have h4 := hq (w.heap.size + 1 + 1 + 1 + 1) (atErr 0) (alloc_at _ _ (by simp)) (by omega); have y0 := blk_cell h0 (i := 0) (v := .int .i64 k) rfl; have y01 := blk_cell h0 (i := 1) (v := .int .i64 p) rfl; have y02 := blk_cell h0 (i := 2) (v := .int .i64 c) rfl; have y1 := blk_cell h1 (i := 0) (v := .int .i64 i) rfl; have y2 := blk_cell h2 (i := 0) (v := .int .i64 q) rfl; have y3 := blk_cell h3 (i := 0) (v := .int .i64 0) rfl; have y4 := blk_cell h4 (i := 0) (v := .int .i64 0) rfl; have f2 := blk_frozen h2 (i := 0); have f3 := blk_frozen h3 (i := 0); have f4 := blk_frozen h4 (i := 0); clear hq; clear hbc))
  have c3 := blk_cell (blk_far (b' := w.heap.size + 1 + 1 + 1 + 1) (blk_set h3 (.int .i64 0) (i := 0)) (i := 0) (by omega) (.int .i64 1)) (i := 0) (v := .int .i64 0) rfl
  have c4 := blk_cell (blk_set (blk_far (b' := w.heap.size + 1 + 1 + 1) h4 (i := 0) (by omega) (.int .i64 0)) (i := 0) (.int .i64 1)) (i := 0) (v := .int .i64 1) rfl
  refine ⟨.tuple #[.int .i64 0, .int .i64 1], ?_, rfl, ((hBc.setCell (p := ⟨w.heap.size + 1 + 1 + 1, 0, none⟩) (by simp; omega) _).setCell (p := ⟨w.heap.size + 1 + 1 + 1 + 1, 0, none⟩) (by simp; omega) _)⟩
  simp [results, Tryd.f27, go_sem, c3, c4]

end Go.Proofs.YthigfjelgbdcfaaDoor

namespace Go.Proofs.YthigfjelgbdcfaaDoor
open Go.RowKit Go.Shelf

attribute [local go_sem] Oper.semAt_some

/-- no part of a list is that one -/
def NoneAt (i q : Int) (l : List Part) : Prop := ∀ x ∈ l, ¬ (x.1 = i ∧ x.2.1 = q)
theorem NoneAt.snoc {i q : Int} {l : List Part} {x : Part} (h : NoneAt i q l) (hx : ¬ (x.1 = i ∧ x.2.1 = q)) : NoneAt i q (l ++ [x]) := by
  intro y hy
  rcases List.mem_append.1 hy with hy | hy
  · exact h y hy
  · simp only [List.mem_singleton] at hy
    subst hy
    exact hx
/-- one part of a list is that one, and two blocks tell where it begins -/
def FoundAt (i q : Int) (b6 b7 : Nat) (l : List Part) (W : World) : Prop :=
  ∃ x ∈ l, x.1 = i ∧ x.2.1 = q ∧ W.heap[b6]? = some (one x.2.2.1 3) ∧ W.heap[b7]? = some (atErr 0)
theorem FoundAt.own (i q : Int) (b6 b7 : Nat) : Own (fun (l : List Part) W => FoundAt i q b6 b7 l W) := by
  rintro s A B row ⟨x, hx, h1, h2, g2, g3⟩ hg hr
  exact ⟨x, hx, h1, h2, blk_own g2 hg hr, blk_own g3 hg hr⟩

set_option maxRecDepth 100000 in
set_option maxHeartbeats 2000000 in
theorem rAt_0 (k p c q : Int) (w : World) (ho : Objs w) (h : Fit k p c) (q0 : 0 ≤ q) (q1 : q < p) : Calls Tryd.prog 27 #[conf k p c, .int .i64 0, .int .i64 q] w fun e w' => e = .returned (.tuple #[.int .i64 (atN k p c 0 q), .int .i64 0]) ∧ Below w.heap.size w w' := by
  have hF := fitsB_yes h
  have HO := Lib.hid ho
  have HF := Lib.hid h
  clear ho h
  have g0 : True := trivial
  have g1 : True := trivial
  have g2 : ¬ (q < 0) := by omega
  have g3 : ¬ (p ≤ q) := by omega
  refine (callsIn_wide (n := 4)).1 ?_
  refine callsIn_of_wp_marks Tryd.func27 rfl trivial ?_ rfl
  simp only [Tryd.ntmps27, List.size_toArray, List.length_cons, List.length_nil, Nat.reduceAdd, Nat.reduceSub, Array.replicate_succ, Array.replicate_zero, List.push_toArray, List.append_toArray, List.nil_append, List.cons_append]
  gi_wp2_with (first | (refine ⟨trivial, ?_⟩; gi_at_call 41; refine (callsIn_wide.2 (rFits _ _ _ _)).mono ?_; rintro e wc ⟨rfl, hbc⟩; have hBc : Below w.heap.size w wc := Below.trans (by repeat (first | exact Below.refl _ _ | assumption | refine Below.drew ?_ | refine Below.alloc ?_ (by first | omega | (simp; omega) | (simp; done)) _ | refine Below.setCell ?_ (by first | omega | (simp; omega) | (simp; done)) _)) (hbc.mono (by simp; omega)); have hzc := hbc.size; simp at hzc; have hq : ∀ (b : Nat) (o : Obj), (((((w.alloc (.cells #[.int .i64 k, .int .i64 p, .int .i64 c] 24)).alloc (one 0 3)).alloc (one q 3)).alloc (one 0 3)).alloc (atErr 0)).heap[b]? = some o → b < w.heap.size + 1 + 1 + 1 + 1 + 1 → wc.heap[b]? = some o := (fun b o ho hb => (hbc.block b (by simp; omega)).trans ho); have h0 := hq (w.heap.size) (.cells #[.int .i64 k, .int .i64 p, .int .i64 c] 24) (blk_alloc' (blk_alloc' (blk_alloc' (blk_alloc' (alloc_at _ _ (by simp)))))) (by omega); have h1 := hq (w.heap.size + 1) (one 0 3) (blk_alloc' (blk_alloc' (blk_alloc' (alloc_at _ _ (by simp))))) (by omega); have h2 := hq (w.heap.size + 1 + 1) (one q 3) (blk_alloc' (blk_alloc' (alloc_at _ _ (by simp)))) (by omega); have h3 := hq (w.heap.size + 1 + 1 + 1) (one 0 3) (blk_alloc' (alloc_at _ _ (by simp))) (by omega); have h4 := hq (w.heap.size + 1 + 1 + 1 + 1) (atErr 0) (alloc_at _ _ (by simp)) (by omega); have y0 := blk_cell h0 (i := 0) (v := .int .i64 k) rfl; have y01 := blk_cell h0 (i := 1) (v := .int .i64 p) rfl; have y02 := blk_cell h0 (i := 2) (v := .int .i64 c) rfl; have y1 := blk_cell h1 (i := 0) (v := .int .i64 0) rfl; have y2 := blk_cell h2 (i := 0) (v := .int .i64 q) rfl; have y3 := blk_cell h3 (i := 0) (v := .int .i64 0) rfl; have y4 := blk_cell h4 (i := 0) (v := .int .i64 0) rfl; have f2 := blk_frozen h2 (i := 0); have f3 := blk_frozen h3 (i := 0); have f4 := blk_frozen h4 (i := 0); clear hq; clear hbc) | (refine ⟨trivial, ?_⟩; gi_at_call 54; refine (callsIn_wide.2 (rParts _ _ _ _)).mono ?_; rintro e wd ⟨rfl, rfl⟩))
  have hzc2 := hzc
  clear hF y0 y01 y02 y1 y2 y3 y4 f2 f3 f4 g0 g1 g2 g3
  obtain ⟨W0, hW0⟩ : ∃ W0, (wc.setCell ⟨w.heap.size + 1 + 1, 0, none⟩ (.int .i64 0)).alloc (.cells #[.int .i64 k, .int .i64 p, .int .i64 c] 24) = W0 := ⟨_, rfl⟩
  have hsz : W0.heap.size = wc.heap.size + 1 := by rw [← hW0]; simp
  have hB0 : Below w.heap.size w W0 := by rw [← hW0]; exact (hBc.setCell (p := ⟨w.heap.size + 1 + 1, 0, none⟩) (by simp; omega) _).alloc (by first | omega | (simp; omega)) _
  have hbx : W0.heap[wc.heap.size]? = some (.cells #[.int .i64 k, .int .i64 p, .int .i64 c] 24 (0, 0)) := by rw [← hW0]; exact alloc_at _ _ (by simp)
  replace h1 : W0.heap[w.heap.size + 1]? = some (one 0 3) := by rw [← hW0]; exact blk_alloc' (blk_far h1 (by omega) _)
  replace h2 : W0.heap[w.heap.size + 1 + 1]? = some (one 0 3) := by rw [← hW0]; exact blk_alloc' (blk_set h2 _)
  replace h3 : W0.heap[w.heap.size + 1 + 1 + 1]? = some (one 0 3) := by rw [← hW0]; exact blk_alloc' (blk_far h3 (by omega) _)
  replace h4 : W0.heap[w.heap.size + 1 + 1 + 1 + 1]? = some (atErr 0) := by rw [← hW0]; exact blk_alloc' (blk_far h4 (by omega) _)
  rw [hW0]
  clear hW0 hBc
  refine wpIn_rangeFunc_ownH rfl (by omega) (gf := 71) (lb := #[.pointer (some ⟨wc.heap.size, 0, none⟩)]) rfl trivial (enters_of Tryd.func71 (by kernel_rfl) rfl)
    (parts_stops (fun i => w.heap.size + 1 + 1 + 1 ≤ i ∧ i ≤ w.heap.size + 1 + 1 + 1 + 1) k p c HF.out wc.heap.size W0 (HO.out.below hB0) hbx (by omega) (fun i hi => by omega) _ (by omega)) KeepW.trans (fun W l o o' _ hl hc _ => KeepW.put W l o o' hl hc) (Below.refl _ _) (fun _ => rfl)
    (fun pre W => (((((NoneAt 0 0 pre) ∧ W.heap[w.heap.size + 1]? = some (one 0 3)) ∧ W.heap[w.heap.size + 1 + 1]? = some (one 0 3)) ∧ W.heap[w.heap.size + 1 + 1 + 1]? = some (one 0 3)) ∧ W.heap[w.heap.size + 1 + 1 + 1 + 1]? = some (atErr 0)) ∧ Below w.heap.size w W)
    (fun cd pre W => (cd = .ret ∧ FoundAt 0 0 (w.heap.size + 1 + 1 + 1) (w.heap.size + 1 + 1 + 1 + 1) pre W) ∧ Below w.heap.size w W)
    (OwnFrom.and (OwnFrom.and (OwnFrom.and (OwnFrom.and (OwnFrom.and (ownFrom_pure _ _) (Own.from (own_blk _ (fun _ => #[.int .i64 0]) _ _) _)) (Own.from (own_blk _ (fun _ => #[.int .i64 0]) _ _) _)) (Own.from (own_blk _ (fun _ => #[.int .i64 0]) _ _) _)) (Own.from (own_blk _ (fun _ => #[.int .i64 0]) _ _) _)) (ownFrom_below (Nat.le_refl _) (by omega)))
    (fun cd => OwnFrom.and (OwnFrom.and (ownFrom_pure _ (fun _ => cd = .ret)) (Own.from (FoundAt.own _ _ _ _) _)) (ownFrom_below (Nat.le_refl _) (by omega)))
    ⟨⟨⟨⟨⟨by intro x hx; simp at hx, h1⟩, h2⟩, h3⟩, h4⟩, hB0⟩
    (fun x a' W => ∃ Bx, w.heap.size + 1 + 1 + 1 + 1 < Bx ∧ W.heap[Bx]? = some (partBlk x) ∧
      a' = { tmps := #[conf k p c, .int .i64 0, .int .i64 q, .pointer (some ⟨w.heap.size, 0, none⟩), .pointer (some ⟨w.heap.size + 1, 0, none⟩), .pointer (some ⟨w.heap.size + 1 + 1, 0, none⟩), .pointer (some ⟨w.heap.size + 1 + 1 + 1, 0, none⟩), .pointer (some ⟨w.heap.size + 1 + 1 + 1 + 1, 0, none⟩), .pointer (some ⟨Bx, 0, none⟩), .bool false, .agg #[.int .i64 k, .int .i64 p, .int .i64 c], .bool true, .bool false, .bool (decide (p ≤ q)), .int .i64 0, .bool false, .int .i64 0, .bool false, .int .i64 q, .bool (decide (q < 0)), .int .i64 q, .pointer (some ⟨w.heap.size, 1, none⟩), .int .i64 p, .bool (decide (p ≤ q)), .bool true, .int .i64 0, .bool true, undef, undef, .agg #[.int .i64 k, .int .i64 p, .int .i64 c], .func (.func 71) #[] #[.pointer (some ⟨wc.heap.size, 0, none⟩)], .agg #[.int .i64 x.1, .int .i64 x.2.1, .int .i64 x.2.2.1, .int .i64 x.2.2.2], undef, undef, undef, undef, undef, undef, undef, undef, undef, undef, undef, undef], defers := [] })
    (fun x a' _ X Y row hs hg hr => by obtain ⟨Bx, h1, h2, h3⟩ := hs; exact ⟨Bx, h1, blk_own h2 hg (fun r e => (hr r e).2), h3⟩)
    ?assign ?body ?done ?stop
  case assign =>
    rintro l pre x W K ⟨⟨⟨⟨⟨hp, g1⟩, g2⟩, g3⟩, g4⟩, hB1⟩ hK
    gi_wp2
    have hz1 := hB1.size
    have := (Array.getElem?_eq_some_iff.1 g4).1
    exact hK _ _ ((KeepsOthers.alloc _ _).from _) (KeepW.of_below (blk_alloc W _)) ⟨⟨⟨⟨⟨hp, blk_alloc' g1⟩, blk_alloc' g2⟩, blk_alloc' g3⟩, blk_alloc' g4⟩, hB1.alloc hz1 _⟩ ⟨W.heap.size, by omega, World.alloc_heap_new W _, rfl⟩
  case body =>
    rintro l pre x a' W hl hr ⟨⟨⟨⟨⟨hp, g1⟩, g2⟩, g3⟩, g4⟩, hB1⟩ ⟨Bx, hBx, bX, rfl⟩ hlt
    have x0 := blk_cell bX (i := 0) (v := .int .i64 x.1) rfl
    have x1 := blk_cell bX (i := 1) (v := .int .i64 x.2.1) rfl
    have x2 := blk_cell bX (i := 2) (v := .int .i64 x.2.2.1) rfl
    have ci := blk_cell g1 (i := 0) (v := .int .i64 0) rfl
    have y2 := blk_cell g2 (i := 0) (v := .int .i64 0) rfl
    have y3 := blk_cell g3 (i := 0) (v := .int .i64 0) rfl
    have y4 := blk_cell g4 (i := 0) (v := .int .i64 0) rfl
    have f3 := blk_frozen g3 (i := 0)
    have f4 := blk_frozen g4 (i := 0)
    by_cases k1 : x.1 = 0
    · by_cases k2 : x.2.1 = 0
      · gi_wp2
        refine ⟨((KeepsOthers.setCell _ _ _).trans (KeepsOthers.setCell _ _ _)).from _, ⟨rfl, x, by simp, k1, k2, ?_, ?_⟩, ((hB1.setCell (p := ⟨w.heap.size + 1 + 1 + 1, 0, none⟩) (by simp; omega) _).setCell (p := ⟨w.heap.size + 1 + 1 + 1 + 1, 0, none⟩) (by simp; omega) _)⟩
        · exact blk_far (blk_set g3 _) (by omega) _
        · exact blk_set (blk_far g4 (by omega) _) _
      · gi_wp2
        exact ⟨(KeepsOthers.refl _).from _, KeepW.refl _ _, ⟨⟨⟨⟨⟨hp.snoc (by omega), g1⟩, g2⟩, g3⟩, g4⟩, hB1⟩⟩
    · gi_wp2
      exact ⟨(KeepsOthers.refl _).from _, KeepW.refl _ _, ⟨⟨⟨⟨⟨hp.snoc (by omega), g1⟩, g2⟩, g3⟩, g4⟩, hB1⟩⟩
  case done =>
    rintro D ys W hD rfl ⟨⟨⟨⟨⟨hp, g1⟩, g2⟩, g3⟩, g4⟩, hB1⟩ hK
    exfalso
    obtain ⟨x, hx, hx1, hx2⟩ := at_mem (k := k) (p := p) (c := c) (i := 0) (q := 0) (by omega) (by omega) (by omega) (by unfold partOwn; first | omega | (rw [if_pos (by omega)]; omega) | (rw [if_neg (by omega)]; omega))
    exact hp x hx ⟨hx1, hx2⟩
  case stop =>
    rintro D c' pre W hD hpre ⟨⟨rfl, x, hx, hx1, hx2, g3, g4⟩, hB1⟩ hK
    have hw := at_found (hpre.subset hx) hx1 hx2
    gi_wp2
    refine ⟨by simp, .inl ⟨_, _, rfl, run_takeDeferred hK, ?_⟩⟩
    have c3 := blk_cell (blk_put (o' := .deferred none) g3 hK rfl) (i := 0) (v := .int .i64 x.2.2.1) rfl
    have c4 := blk_cell (blk_put (o' := .deferred none) g4 hK rfl) (i := 0) (v := .int .i64 0) rfl
    refine ⟨.tuple #[.int .i64 x.2.2.1, .int .i64 0], ?_, ?_, below_putD hB1 hK (by omega) (by have := hB1.size; simpa using this)⟩
    · simp [results, Tryd.f27, go_sem, c3, c4]
    · rw [hw]; simp [atN, *]

set_option maxRecDepth 100000 in
set_option maxHeartbeats 2000000 in
theorem rAt_4 (k p c q : Int) (w : World) (ho : Objs w) (h : Fit k p c) (q0 : 0 ≤ q) (q1 : q < p) : Calls Tryd.prog 27 #[conf k p c, .int .i64 4, .int .i64 q] w fun e w' => e = .returned (.tuple #[.int .i64 (atN k p c 4 q), .int .i64 0]) ∧ Below w.heap.size w w' := by
  have hF := fitsB_yes h
  have HO := Lib.hid ho
  have HF := Lib.hid h
  clear ho h
  have g0 : True := trivial
  have g1 : True := trivial
  have g2 : ¬ (q < 0) := by omega
  have g3 : ¬ (p ≤ q) := by omega
  refine (callsIn_wide (n := 4)).1 ?_
  refine callsIn_of_wp_marks Tryd.func27 rfl trivial ?_ rfl
  simp only [Tryd.ntmps27, List.size_toArray, List.length_cons, List.length_nil, Nat.reduceAdd, Nat.reduceSub, Array.replicate_succ, Array.replicate_zero, List.push_toArray, List.append_toArray, List.nil_append, List.cons_append]
  gi_wp2_with (first | (refine ⟨trivial, ?_⟩; gi_at_call 41; refine (callsIn_wide.2 (rFits _ _ _ _)).mono ?_; rintro e wc ⟨rfl, hbc⟩; have hBc : Below w.heap.size w wc := Below.trans (by repeat (first | exact Below.refl _ _ | assumption | refine Below.drew ?_ | refine Below.alloc ?_ (by first | omega | (simp; omega) | (simp; done)) _ | refine Below.setCell ?_ (by first | omega | (simp; omega) | (simp; done)) _)) (hbc.mono (by simp; omega)); have hzc := hbc.size; simp at hzc; have hq : ∀ (b : Nat) (o : Obj), (((((w.alloc (.cells #[.int .i64 k, .int .i64 p, .int .i64 c] 24)).alloc (one 4 3)).alloc (one q 3)).alloc (one 0 3)).alloc (atErr 0)).heap[b]? = some o → b < w.heap.size + 1 + 1 + 1 + 1 + 1 → wc.heap[b]? = some o := (fun b o ho hb => (hbc.block b (by simp; omega)).trans ho); have h0 := hq (w.heap.size) (.cells #[.int .i64 k, .int .i64 p, .int .i64 c] 24) (blk_alloc' (blk_alloc' (blk_alloc' (blk_alloc' (alloc_at _ _ (by simp)))))) (by omega); have h1 := hq (w.heap.size + 1) (one 4 3) (blk_alloc' (blk_alloc' (blk_alloc' (alloc_at _ _ (by simp))))) (by omega); have h2 := hq (w.heap.size + 1 + 1) (one q 3) (blk_alloc' (blk_alloc' (alloc_at _ _ (by simp)))) (by omega); have h3 := hq (w.heap.size + 1 + 1 + 1) (one 0 3) (blk_alloc' (alloc_at _ _ (by simp))) (by omega); have h4 := hq (w.heap.size + 1 + 1 + 1 + 1) (atErr 0) (alloc_at _ _ (by simp)) (by omega); have y0 := blk_cell h0 (i := 0) (v := .int .i64 k) rfl; have y01 := blk_cell h0 (i := 1) (v := .int .i64 p) rfl; have y02 := blk_cell h0 (i := 2) (v := .int .i64 c) rfl; have y1 := blk_cell h1 (i := 0) (v := .int .i64 4) rfl; have y2 := blk_cell h2 (i := 0) (v := .int .i64 q) rfl; have y3 := blk_cell h3 (i := 0) (v := .int .i64 0) rfl; have y4 := blk_cell h4 (i := 0) (v := .int .i64 0) rfl; have f2 := blk_frozen h2 (i := 0); have f3 := blk_frozen h3 (i := 0); have f4 := blk_frozen h4 (i := 0); clear hq; clear hbc) | (refine ⟨trivial, ?_⟩; gi_at_call 54; refine (callsIn_wide.2 (rParts _ _ _ _)).mono ?_; rintro e wd ⟨rfl, rfl⟩))
  have hzc2 := hzc
  clear hF y0 y01 y02 y1 y2 y3 y4 f2 f3 f4 g0 g1 g2 g3
  obtain ⟨W0, hW0⟩ : ∃ W0, (wc.setCell ⟨w.heap.size + 1 + 1, 0, none⟩ (.int .i64 0)).alloc (.cells #[.int .i64 k, .int .i64 p, .int .i64 c] 24) = W0 := ⟨_, rfl⟩
  have hsz : W0.heap.size = wc.heap.size + 1 := by rw [← hW0]; simp
  have hB0 : Below w.heap.size w W0 := by rw [← hW0]; exact (hBc.setCell (p := ⟨w.heap.size + 1 + 1, 0, none⟩) (by simp; omega) _).alloc (by first | omega | (simp; omega)) _
  have hbx : W0.heap[wc.heap.size]? = some (.cells #[.int .i64 k, .int .i64 p, .int .i64 c] 24 (0, 0)) := by rw [← hW0]; exact alloc_at _ _ (by simp)
  replace h1 : W0.heap[w.heap.size + 1]? = some (one 4 3) := by rw [← hW0]; exact blk_alloc' (blk_far h1 (by omega) _)
  replace h2 : W0.heap[w.heap.size + 1 + 1]? = some (one 0 3) := by rw [← hW0]; exact blk_alloc' (blk_set h2 _)
  replace h3 : W0.heap[w.heap.size + 1 + 1 + 1]? = some (one 0 3) := by rw [← hW0]; exact blk_alloc' (blk_far h3 (by omega) _)
  replace h4 : W0.heap[w.heap.size + 1 + 1 + 1 + 1]? = some (atErr 0) := by rw [← hW0]; exact blk_alloc' (blk_far h4 (by omega) _)
  rw [hW0]
  clear hW0 hBc
  refine wpIn_rangeFunc_ownH rfl (by omega) (gf := 71) (lb := #[.pointer (some ⟨wc.heap.size, 0, none⟩)]) rfl trivial (enters_of Tryd.func71 (by kernel_rfl) rfl)
    (parts_stops (fun i => w.heap.size + 1 + 1 + 1 ≤ i ∧ i ≤ w.heap.size + 1 + 1 + 1 + 1) k p c HF.out wc.heap.size W0 (HO.out.below hB0) hbx (by omega) (fun i hi => by omega) _ (by omega)) KeepW.trans (fun W l o o' _ hl hc _ => KeepW.put W l o o' hl hc) (Below.refl _ _) (fun _ => rfl)
    (fun pre W => (((((NoneAt 4 0 pre) ∧ W.heap[w.heap.size + 1]? = some (one 4 3)) ∧ W.heap[w.heap.size + 1 + 1]? = some (one 0 3)) ∧ W.heap[w.heap.size + 1 + 1 + 1]? = some (one 0 3)) ∧ W.heap[w.heap.size + 1 + 1 + 1 + 1]? = some (atErr 0)) ∧ Below w.heap.size w W)
    (fun cd pre W => (cd = .ret ∧ FoundAt 4 0 (w.heap.size + 1 + 1 + 1) (w.heap.size + 1 + 1 + 1 + 1) pre W) ∧ Below w.heap.size w W)
    (OwnFrom.and (OwnFrom.and (OwnFrom.and (OwnFrom.and (OwnFrom.and (ownFrom_pure _ _) (Own.from (own_blk _ (fun _ => #[.int .i64 4]) _ _) _)) (Own.from (own_blk _ (fun _ => #[.int .i64 0]) _ _) _)) (Own.from (own_blk _ (fun _ => #[.int .i64 0]) _ _) _)) (Own.from (own_blk _ (fun _ => #[.int .i64 0]) _ _) _)) (ownFrom_below (Nat.le_refl _) (by omega)))
    (fun cd => OwnFrom.and (OwnFrom.and (ownFrom_pure _ (fun _ => cd = .ret)) (Own.from (FoundAt.own _ _ _ _) _)) (ownFrom_below (Nat.le_refl _) (by omega)))
    ⟨⟨⟨⟨⟨by intro x hx; simp at hx, h1⟩, h2⟩, h3⟩, h4⟩, hB0⟩
    (fun x a' W => ∃ Bx, w.heap.size + 1 + 1 + 1 + 1 < Bx ∧ W.heap[Bx]? = some (partBlk x) ∧
      a' = { tmps := #[conf k p c, .int .i64 4, .int .i64 q, .pointer (some ⟨w.heap.size, 0, none⟩), .pointer (some ⟨w.heap.size + 1, 0, none⟩), .pointer (some ⟨w.heap.size + 1 + 1, 0, none⟩), .pointer (some ⟨w.heap.size + 1 + 1 + 1, 0, none⟩), .pointer (some ⟨w.heap.size + 1 + 1 + 1 + 1, 0, none⟩), .pointer (some ⟨Bx, 0, none⟩), .bool false, .agg #[.int .i64 k, .int .i64 p, .int .i64 c], .bool true, .bool false, .bool (decide (p ≤ q)), .int .i64 4, .bool false, .int .i64 4, .bool false, .int .i64 q, .bool (decide (q < 0)), .int .i64 q, .pointer (some ⟨w.heap.size, 1, none⟩), .int .i64 p, .bool (decide (p ≤ q)), .bool true, .int .i64 4, .bool false, .int .i64 4, .bool true, .agg #[.int .i64 k, .int .i64 p, .int .i64 c], .func (.func 71) #[] #[.pointer (some ⟨wc.heap.size, 0, none⟩)], .agg #[.int .i64 x.1, .int .i64 x.2.1, .int .i64 x.2.2.1, .int .i64 x.2.2.2], undef, undef, undef, undef, undef, undef, undef, undef, undef, undef, undef, undef], defers := [] })
    (fun x a' _ X Y row hs hg hr => by obtain ⟨Bx, h1, h2, h3⟩ := hs; exact ⟨Bx, h1, blk_own h2 hg (fun r e => (hr r e).2), h3⟩)
    ?assign ?body ?done ?stop
  case assign =>
    rintro l pre x W K ⟨⟨⟨⟨⟨hp, g1⟩, g2⟩, g3⟩, g4⟩, hB1⟩ hK
    gi_wp2
    have hz1 := hB1.size
    have := (Array.getElem?_eq_some_iff.1 g4).1
    exact hK _ _ ((KeepsOthers.alloc _ _).from _) (KeepW.of_below (blk_alloc W _)) ⟨⟨⟨⟨⟨hp, blk_alloc' g1⟩, blk_alloc' g2⟩, blk_alloc' g3⟩, blk_alloc' g4⟩, hB1.alloc hz1 _⟩ ⟨W.heap.size, by omega, World.alloc_heap_new W _, rfl⟩
  case body =>
    rintro l pre x a' W hl hr ⟨⟨⟨⟨⟨hp, g1⟩, g2⟩, g3⟩, g4⟩, hB1⟩ ⟨Bx, hBx, bX, rfl⟩ hlt
    have x0 := blk_cell bX (i := 0) (v := .int .i64 x.1) rfl
    have x1 := blk_cell bX (i := 1) (v := .int .i64 x.2.1) rfl
    have x2 := blk_cell bX (i := 2) (v := .int .i64 x.2.2.1) rfl
    have ci := blk_cell g1 (i := 0) (v := .int .i64 4) rfl
    have y2 := blk_cell g2 (i := 0) (v := .int .i64 0) rfl
    have y3 := blk_cell g3 (i := 0) (v := .int .i64 0) rfl
    have y4 := blk_cell g4 (i := 0) (v := .int .i64 0) rfl
    have f3 := blk_frozen g3 (i := 0)
    have f4 := blk_frozen g4 (i := 0)
    by_cases k1 : x.1 = 4
    · by_cases k2 : x.2.1 = 0
      · gi_wp2
        refine ⟨((KeepsOthers.setCell _ _ _).trans (KeepsOthers.setCell _ _ _)).from _, ⟨rfl, x, by simp, k1, k2, ?_, ?_⟩, ((hB1.setCell (p := ⟨w.heap.size + 1 + 1 + 1, 0, none⟩) (by simp; omega) _).setCell (p := ⟨w.heap.size + 1 + 1 + 1 + 1, 0, none⟩) (by simp; omega) _)⟩
        · exact blk_far (blk_set g3 _) (by omega) _
        · exact blk_set (blk_far g4 (by omega) _) _
      · gi_wp2
        exact ⟨(KeepsOthers.refl _).from _, KeepW.refl _ _, ⟨⟨⟨⟨⟨hp.snoc (by omega), g1⟩, g2⟩, g3⟩, g4⟩, hB1⟩⟩
    · gi_wp2
      exact ⟨(KeepsOthers.refl _).from _, KeepW.refl _ _, ⟨⟨⟨⟨⟨hp.snoc (by omega), g1⟩, g2⟩, g3⟩, g4⟩, hB1⟩⟩
  case done =>
    rintro D ys W hD rfl ⟨⟨⟨⟨⟨hp, g1⟩, g2⟩, g3⟩, g4⟩, hB1⟩ hK
    exfalso
    obtain ⟨x, hx, hx1, hx2⟩ := at_mem (k := k) (p := p) (c := c) (i := 4) (q := 0) (by omega) (by omega) (by omega) (by unfold partOwn; first | omega | (rw [if_pos (by omega)]; omega) | (rw [if_neg (by omega)]; omega))
    exact hp x hx ⟨hx1, hx2⟩
  case stop =>
    rintro D c' pre W hD hpre ⟨⟨rfl, x, hx, hx1, hx2, g3, g4⟩, hB1⟩ hK
    have hw := at_found (hpre.subset hx) hx1 hx2
    gi_wp2
    refine ⟨by simp, .inl ⟨_, _, rfl, run_takeDeferred hK, ?_⟩⟩
    have c3 := blk_cell (blk_put (o' := .deferred none) g3 hK rfl) (i := 0) (v := .int .i64 x.2.2.1) rfl
    have c4 := blk_cell (blk_put (o' := .deferred none) g4 hK rfl) (i := 0) (v := .int .i64 0) rfl
    refine ⟨.tuple #[.int .i64 x.2.2.1, .int .i64 0], ?_, ?_, below_putD hB1 hK (by omega) (by have := hB1.size; simpa using this)⟩
    · simp [results, Tryd.f27, go_sem, c3, c4]
    · rw [hw]; simp [atN, *]

set_option maxRecDepth 100000 in
set_option maxHeartbeats 2000000 in
theorem rAt_m (k p c i q : Int) (w : World) (ho : Objs w) (h : Fit k p c) (h0 : 0 ≤ i) (h1 : i ≤ 4) (q0 : 0 ≤ q) (q1 : q < p) (hi0 : i ≠ 0) (hi4 : i ≠ 4) : Calls Tryd.prog 27 #[conf k p c, .int .i64 i, .int .i64 q] w fun e w' => e = .returned (.tuple #[.int .i64 (atN k p c i q), .int .i64 0]) ∧ Below w.heap.size w w' := by
  have hF := fitsB_yes h
  have HO := Lib.hid ho
  have HF := Lib.hid h
  clear ho h
  have g0 : ¬ (i < 0) := by omega
  have g1 : ¬ (4 < i) := by omega
  have hi := Lib.hid (And.intro h0 h1)
  clear h0 h1
  have g2 : ¬ (q < 0) := by omega
  have g3 : ¬ (p ≤ q) := by omega
  refine (callsIn_wide (n := 4)).1 ?_
  refine callsIn_of_wp_marks Tryd.func27 rfl trivial ?_ rfl
  simp only [Tryd.ntmps27, List.size_toArray, List.length_cons, List.length_nil, Nat.reduceAdd, Nat.reduceSub, Array.replicate_succ, Array.replicate_zero, List.push_toArray, List.append_toArray, List.nil_append, List.cons_append]
  gi_wp2_with (first | (refine ⟨trivial, ?_⟩; gi_at_call 41; refine (callsIn_wide.2 (rFits _ _ _ _)).mono ?_; rintro e wc ⟨rfl, hbc⟩; have hBc : Below w.heap.size w wc := Below.trans (by repeat (first | exact Below.refl _ _ | assumption | refine Below.drew ?_ | refine Below.alloc ?_ (by first | omega | (simp; omega) | (simp; done)) _ | refine Below.setCell ?_ (by first | omega | (simp; omega) | (simp; done)) _)) (hbc.mono (by simp; omega)); have hzc := hbc.size; simp at hzc; have hq : ∀ (b : Nat) (o : Obj), (((((w.alloc (.cells #[.int .i64 k, .int .i64 p, .int .i64 c] 24)).alloc (one i 3)).alloc (one q 3)).alloc (one 0 3)).alloc (atErr 0)).heap[b]? = some o → b < w.heap.size + 1 + 1 + 1 + 1 + 1 → wc.heap[b]? = some o := (fun b o ho hb => (hbc.block b (by simp; omega)).trans ho); have h0 := hq (w.heap.size) (.cells #[.int .i64 k, .int .i64 p, .int .i64 c] 24) (blk_alloc' (blk_alloc' (blk_alloc' (blk_alloc' (alloc_at _ _ (by simp)))))) (by omega); have h1 := hq (w.heap.size + 1) (one i 3) (blk_alloc' (blk_alloc' (blk_alloc' (alloc_at _ _ (by simp))))) (by omega); have h2 := hq (w.heap.size + 1 + 1) (one q 3) (blk_alloc' (blk_alloc' (alloc_at _ _ (by simp)))) (by omega); have h3 := hq (w.heap.size + 1 + 1 + 1) (one 0 3) (blk_alloc' (alloc_at _ _ (by simp))) (by omega); have h4 := hq (w.heap.size + 1 + 1 + 1 + 1) (atErr 0) (alloc_at _ _ (by simp)) (by omega); have y0 := blk_cell h0 (i := 0) (v := .int .i64 k) rfl; have y01 := blk_cell h0 (i := 1) (v := .int .i64 p) rfl; have y02 := blk_cell h0 (i := 2) (v := .int .i64 c) rfl; have y1 := blk_cell h1 (i := 0) (v := .int .i64 i) rfl; have y2 := blk_cell h2 (i := 0) (v := .int .i64 q) rfl; have y3 := blk_cell h3 (i := 0) (v := .int .i64 0) rfl; have y4 := blk_cell h4 (i := 0) (v := .int .i64 0) rfl; have f2 := blk_frozen h2 (i := 0); have f3 := blk_frozen h3 (i := 0); have f4 := blk_frozen h4 (i := 0); clear hq; clear hbc) | (refine ⟨trivial, ?_⟩; gi_at_call 54; refine (callsIn_wide.2 (rParts _ _ _ _)).mono ?_; rintro e wd ⟨rfl, rfl⟩))
  have h0i := hi.out.1
  have h1i := hi.out.2
  have hzc2 := hzc
  clear hF y0 y01 y02 y1 y2 y3 y4 f2 f3 f4 g0 g1 g2 g3
  obtain ⟨W0, hW0⟩ : ∃ W0, (wc).alloc (.cells #[.int .i64 k, .int .i64 p, .int .i64 c] 24) = W0 := ⟨_, rfl⟩
  have hsz : W0.heap.size = wc.heap.size + 1 := by rw [← hW0]; simp
  have hB0 : Below w.heap.size w W0 := by rw [← hW0]; exact (hBc).alloc (by first | omega | (simp; omega)) _
  have hbx : W0.heap[wc.heap.size]? = some (.cells #[.int .i64 k, .int .i64 p, .int .i64 c] 24 (0, 0)) := by rw [← hW0]; exact alloc_at _ _ (by simp)
  replace h1 : W0.heap[w.heap.size + 1]? = some (one i 3) := by rw [← hW0]; exact blk_alloc' (h1)
  replace h2 : W0.heap[w.heap.size + 1 + 1]? = some (one q 3) := by rw [← hW0]; exact blk_alloc' (h2)
  replace h3 : W0.heap[w.heap.size + 1 + 1 + 1]? = some (one 0 3) := by rw [← hW0]; exact blk_alloc' (h3)
  replace h4 : W0.heap[w.heap.size + 1 + 1 + 1 + 1]? = some (atErr 0) := by rw [← hW0]; exact blk_alloc' (h4)
  rw [hW0]
  clear hW0 hBc
  refine wpIn_rangeFunc_ownH rfl (by omega) (gf := 71) (lb := #[.pointer (some ⟨wc.heap.size, 0, none⟩)]) rfl trivial (enters_of Tryd.func71 (by kernel_rfl) rfl)
    (parts_stops (fun i => w.heap.size + 1 + 1 + 1 ≤ i ∧ i ≤ w.heap.size + 1 + 1 + 1 + 1) k p c HF.out wc.heap.size W0 (HO.out.below hB0) hbx (by omega) (fun i hi => by omega) _ (by omega)) KeepW.trans (fun W l o o' _ hl hc _ => KeepW.put W l o o' hl hc) (Below.refl _ _) (fun _ => rfl)
    (fun pre W => (((((NoneAt i q pre) ∧ W.heap[w.heap.size + 1]? = some (one i 3)) ∧ W.heap[w.heap.size + 1 + 1]? = some (one q 3)) ∧ W.heap[w.heap.size + 1 + 1 + 1]? = some (one 0 3)) ∧ W.heap[w.heap.size + 1 + 1 + 1 + 1]? = some (atErr 0)) ∧ Below w.heap.size w W)
    (fun cd pre W => (cd = .ret ∧ FoundAt i q (w.heap.size + 1 + 1 + 1) (w.heap.size + 1 + 1 + 1 + 1) pre W) ∧ Below w.heap.size w W)
    (OwnFrom.and (OwnFrom.and (OwnFrom.and (OwnFrom.and (OwnFrom.and (ownFrom_pure _ _) (Own.from (own_blk _ (fun _ => #[.int .i64 i]) _ _) _)) (Own.from (own_blk _ (fun _ => #[.int .i64 q]) _ _) _)) (Own.from (own_blk _ (fun _ => #[.int .i64 0]) _ _) _)) (Own.from (own_blk _ (fun _ => #[.int .i64 0]) _ _) _)) (ownFrom_below (Nat.le_refl _) (by omega)))
    (fun cd => OwnFrom.and (OwnFrom.and (ownFrom_pure _ (fun _ => cd = .ret)) (Own.from (FoundAt.own _ _ _ _) _)) (ownFrom_below (Nat.le_refl _) (by omega)))
    ⟨⟨⟨⟨⟨by intro x hx; simp at hx, h1⟩, h2⟩, h3⟩, h4⟩, hB0⟩
    (fun x a' W => ∃ Bx, w.heap.size + 1 + 1 + 1 + 1 < Bx ∧ W.heap[Bx]? = some (partBlk x) ∧
      a' = { tmps := #[conf k p c, .int .i64 i, .int .i64 q, .pointer (some ⟨w.heap.size, 0, none⟩), .pointer (some ⟨w.heap.size + 1, 0, none⟩), .pointer (some ⟨w.heap.size + 1 + 1, 0, none⟩), .pointer (some ⟨w.heap.size + 1 + 1 + 1, 0, none⟩), .pointer (some ⟨w.heap.size + 1 + 1 + 1 + 1, 0, none⟩), .pointer (some ⟨Bx, 0, none⟩), .bool false, .agg #[.int .i64 k, .int .i64 p, .int .i64 c], .bool true, .bool false, .bool (decide (p ≤ q)), .int .i64 i, .bool (decide (i < 0)), .int .i64 i, .bool (decide (4 < i)), .int .i64 q, .bool (decide (q < 0)), .int .i64 q, .pointer (some ⟨w.heap.size, 1, none⟩), .int .i64 p, .bool (decide (p ≤ q)), .bool false, .int .i64 i, .bool false, .int .i64 i, .bool false, .agg #[.int .i64 k, .int .i64 p, .int .i64 c], .func (.func 71) #[] #[.pointer (some ⟨wc.heap.size, 0, none⟩)], .agg #[.int .i64 x.1, .int .i64 x.2.1, .int .i64 x.2.2.1, .int .i64 x.2.2.2], undef, undef, undef, undef, undef, undef, undef, undef, undef, undef, undef, undef], defers := [] })
    (fun x a' _ X Y row hs hg hr => by obtain ⟨Bx, h1, h2, h3⟩ := hs; exact ⟨Bx, h1, blk_own h2 hg (fun r e => (hr r e).2), h3⟩)
    ?assign ?body ?done ?stop
  case assign =>
    rintro l pre x W K ⟨⟨⟨⟨⟨hp, g1⟩, g2⟩, g3⟩, g4⟩, hB1⟩ hK
    gi_wp2
    have hz1 := hB1.size
    have := (Array.getElem?_eq_some_iff.1 g4).1
    exact hK _ _ ((KeepsOthers.alloc _ _).from _) (KeepW.of_below (blk_alloc W _)) ⟨⟨⟨⟨⟨hp, blk_alloc' g1⟩, blk_alloc' g2⟩, blk_alloc' g3⟩, blk_alloc' g4⟩, hB1.alloc hz1 _⟩ ⟨W.heap.size, by omega, World.alloc_heap_new W _, rfl⟩
  case body =>
    rintro l pre x a' W hl hr ⟨⟨⟨⟨⟨hp, g1⟩, g2⟩, g3⟩, g4⟩, hB1⟩ ⟨Bx, hBx, bX, rfl⟩ hlt
    have x0 := blk_cell bX (i := 0) (v := .int .i64 x.1) rfl
    have x1 := blk_cell bX (i := 1) (v := .int .i64 x.2.1) rfl
    have x2 := blk_cell bX (i := 2) (v := .int .i64 x.2.2.1) rfl
    have ci := blk_cell g1 (i := 0) (v := .int .i64 i) rfl
    have y2 := blk_cell g2 (i := 0) (v := .int .i64 q) rfl
    have y3 := blk_cell g3 (i := 0) (v := .int .i64 0) rfl
    have y4 := blk_cell g4 (i := 0) (v := .int .i64 0) rfl
    have f3 := blk_frozen g3 (i := 0)
    have f4 := blk_frozen g4 (i := 0)
    by_cases k1 : x.1 = i
    · by_cases k2 : x.2.1 = q
      · gi_wp2
        refine ⟨((KeepsOthers.setCell _ _ _).trans (KeepsOthers.setCell _ _ _)).from _, ⟨rfl, x, by simp, k1, k2, ?_, ?_⟩, ((hB1.setCell (p := ⟨w.heap.size + 1 + 1 + 1, 0, none⟩) (by simp; omega) _).setCell (p := ⟨w.heap.size + 1 + 1 + 1 + 1, 0, none⟩) (by simp; omega) _)⟩
        · exact blk_far (blk_set g3 _) (by omega) _
        · exact blk_set (blk_far g4 (by omega) _) _
      · gi_wp2
        exact ⟨(KeepsOthers.refl _).from _, KeepW.refl _ _, ⟨⟨⟨⟨⟨hp.snoc (by omega), g1⟩, g2⟩, g3⟩, g4⟩, hB1⟩⟩
    · gi_wp2
      exact ⟨(KeepsOthers.refl _).from _, KeepW.refl _ _, ⟨⟨⟨⟨⟨hp.snoc (by omega), g1⟩, g2⟩, g3⟩, g4⟩, hB1⟩⟩
  case done =>
    rintro D ys W hD rfl ⟨⟨⟨⟨⟨hp, g1⟩, g2⟩, g3⟩, g4⟩, hB1⟩ hK
    exfalso
    obtain ⟨x, hx, hx1, hx2⟩ := at_mem (k := k) (p := p) (c := c) (i := i) (q := q) (by omega) (by omega) (by omega) (by unfold partOwn; first | omega | (rw [if_pos (by omega)]; omega) | (rw [if_neg (by omega)]; omega))
    exact hp x hx ⟨hx1, hx2⟩
  case stop =>
    rintro D c' pre W hD hpre ⟨⟨rfl, x, hx, hx1, hx2, g3, g4⟩, hB1⟩ hK
    have hw := at_found (hpre.subset hx) hx1 hx2
    gi_wp2
    refine ⟨by simp, .inl ⟨_, _, rfl, run_takeDeferred hK, ?_⟩⟩
    have c3 := blk_cell (blk_put (o' := .deferred none) g3 hK rfl) (i := 0) (v := .int .i64 x.2.2.1) rfl
    have c4 := blk_cell (blk_put (o' := .deferred none) g4 hK rfl) (i := 0) (v := .int .i64 0) rfl
    refine ⟨.tuple #[.int .i64 x.2.2.1, .int .i64 0], ?_, ?_, below_putD hB1 hK (by omega) (by have := hB1.size; simpa using this)⟩
    · simp [results, Tryd.f27, go_sem, c3, c4]
    · rw [hw]; simp [atN, *]

theorem rAt_ok (k p c i q : Int) (w : World) (ho : Objs w) (h : Fit k p c) (h0 : 0 ≤ i) (h1 : i ≤ 4) (q0 : 0 ≤ q) (q1 : q < p) : Calls Tryd.prog 27 #[conf k p c, .int .i64 i, .int .i64 q] w fun e w' => e = .returned (.tuple #[.int .i64 (atN k p c i q), .int .i64 0]) ∧ Below w.heap.size w w' := by
  by_cases hi0 : i = 0
  · subst hi0
    exact rAt_0 k p c q w ho h q0 q1
  by_cases hi4 : i = 4
  · subst hi4
    exact rAt_4 k p c q w ho h q0 q1
  exact rAt_m k p c i q w ho h h0 h1 q0 q1 hi0 hi4

end Go.Proofs.YthigfjelgbdcfaaDoor

/-! Layer 16: places. -/
namespace Go.Proofs.YthigfjelgbdcfaaDoor
open Go.RowKit

theorem wu64 {x : Int} (h0 : 0 ≤ x) (h1 : x ≤ 18446744073709551615) : IntKind.u64.wrap x = x := by rw [IntKind.wrap_u64]; omega

/-- a place that a log may write -/
def placeB (k p c x : Int) : Bool := decide (x < sizeN k p c ∧ ((whereN k p c x).1 = 2 ∨ (whereN k p c x).1 = 4))
def plc (b : Bool) (x : Int) : Value := .tuple #[.int .i64 (if b then x else 0), .bool b]

theorem place_far {k p c x : Int} (h : sizeN k p c ≤ x) : placeB k p c x = false := decide_eq_false (by omega)
theorem place_not {k p c x t1 t2 t3 : Int} (hw : whereN k p c x = (t1, t2, t3)) (h2 : t1 ≠ 2) (h4 : t1 ≠ 4) : placeB k p c x = false := decide_eq_false (by rw [hw]; simp only; omega)
theorem place_is {k p c x t1 t2 t3 : Int} (h : x < sizeN k p c) (hw : whereN k p c x = (t1, t2, t3)) (h2 : t1 = 2 ∨ t1 = 4) : placeB k p c x = true := decide_eq_true (by rw [hw]; exact ⟨h, h2⟩)
theorem fit_of_size {k p c x : Int} (h0 : 0 ≤ x) (h : x < sizeN k p c) : Fit k p c := by
  by_cases hf : Fit k p c
  · exact hf
  · rw [sizeN_no hf] at h; omega

set_option maxHeartbeats 1000000 in
theorem wPlace (k p c x : Int) (w : World) (ho : Objs w) (h0 : 0 ≤ x) (hm : x ≤ 18446744073709551615) : Calls Tryd.prog 11 #[conf k p c, .int .u64 x] w fun e w' => e = .returned (plc (placeB k p c x) x) ∧ Below w.heap.size w w' := by
  have HO := Lib.hid ho
  have hs := sizeN_bd k p c
  have e1 : IntKind.u64.wrap (sizeN k p c) = sizeN k p c := wu64 (by omega) (by omega)
  clear ho
  by_cases h : sizeN k p c ≤ x
  · have HP := Lib.hid (place_far h)
    go_enter Tryd.func11, Tryd.ntmps11
    go_wp2_with (first | (go_at_call 36; refine (rSize _ _ _ _ (HO.out.below (by repeat (first | exact Below.refl _ _ | assumption | refine Below.drew ?_ | refine Below.alloc ?_ (by first | omega | (simp; omega) | (simp; done)) _ | refine Below.setCell ?_ (by first | omega | (simp; omega) | (simp; done)) _)))).mono ?_; rintro e wc ⟨rfl, hbc⟩; have hBc : Below w.heap.size w wc := Below.trans (by repeat (first | exact Below.refl _ _ | assumption | refine Below.drew ?_ | refine Below.alloc ?_ (by first | omega | (simp; omega) | (simp; done)) _ | refine Below.setCell ?_ (by first | omega | (simp; omega) | (simp; done)) _)) (hbc.mono (by first | omega | (simp; omega) | (simp; done))); obtain ⟨hcc, hfc⟩ := bcell hbc; have hzc := hbc.size; try simp at hzc; try (have hz0' : w.heap.size < wc.heap.size := (by omega)); try (have hz1' : w.heap.size + 1 < wc.heap.size := (by omega)); try (have hz2' : w.heap.size + 1 + 1 < wc.heap.size := (by omega))))
    go_ret2
    exact ⟨by rw [HP.out]; rfl, (by repeat (first | exact Below.refl _ _ | assumption | refine Below.drew ?_ | refine Below.alloc ?_ (by first | omega | (simp; omega) | (simp; done)) _ | refine Below.setCell ?_ (by first | omega | (simp; omega) | (simp; done)) _))⟩
  · have e2 : IntKind.i64.wrap x = x := w64 (by omega) (by omega)
    obtain ⟨t1, t2, t3, hw⟩ : ∃ t1 t2 t3, whereN k p c x = (t1, t2, t3) := ⟨_, _, _, rfl⟩
    have CW : Hid (∀ w1, Below w.heap.size w w1 → Calls Tryd.prog 37 #[conf k p c, .int .i64 x] w1 fun e w' => e = .returned (.tuple #[.int .i64 t1, .int .i64 t2, .int .i64 t3]) ∧ Below w1.heap.size w1 w') := Lib.hid (fun w1 h => by have := rWhere k p c x w1 (HO.out.below h); rw [hw] at this; exact this)
    by_cases k2 : t1 = 2
    · have HP := Lib.hid (place_is (by omega) hw (.inl k2))
      clear hw
      go_enter Tryd.func11, Tryd.ntmps11
      go_wp2_with (first | (go_at_call 36; refine (rSize _ _ _ _ (HO.out.below (by repeat (first | exact Below.refl _ _ | assumption | refine Below.drew ?_ | refine Below.alloc ?_ (by first | omega | (simp; omega) | (simp; done)) _ | refine Below.setCell ?_ (by first | omega | (simp; omega) | (simp; done)) _)))).mono ?_; rintro e wc ⟨rfl, hbc⟩; have hBc : Below w.heap.size w wc := Below.trans (by repeat (first | exact Below.refl _ _ | assumption | refine Below.drew ?_ | refine Below.alloc ?_ (by first | omega | (simp; omega) | (simp; done)) _ | refine Below.setCell ?_ (by first | omega | (simp; omega) | (simp; done)) _)) (hbc.mono (by first | omega | (simp; omega) | (simp; done))); obtain ⟨hcc, hfc⟩ := bcell hbc; have hzc := hbc.size; try simp at hzc; try (have hz0' : w.heap.size < wc.heap.size := (by omega)); try (have hz1' : w.heap.size + 1 < wc.heap.size := (by omega)); try (have hz2' : w.heap.size + 1 + 1 < wc.heap.size := (by omega))) | (go_at_call 37; refine (CW.out _ (by repeat (first | exact Below.refl _ _ | assumption | refine Below.drew ?_ | refine Below.alloc ?_ (by first | omega | (simp; omega) | (simp; done)) _ | refine Below.setCell ?_ (by first | omega | (simp; omega) | (simp; done)) _))).mono ?_; rintro e wd ⟨rfl, hbwd⟩; have hBwd : Below w.heap.size w wd := Below.trans (by repeat (first | exact Below.refl _ _ | assumption | refine Below.drew ?_ | refine Below.alloc ?_ (by first | omega | (simp; omega) | (simp; done)) _ | refine Below.setCell ?_ (by first | omega | (simp; omega) | (simp; done)) _)) (hbwd.mono (by first | omega | (simp; omega) | (simp; done) | (have := (show Below w.heap.size w _ from by assumption).size; omega))); obtain ⟨hccwd, hfcwd⟩ := bcell hbwd; have hzwd := hbwd.size; try simp at hzwd; try (have hz0wd : w.heap.size < wd.heap.size := (by omega)); try (have hz1wd : w.heap.size + 1 < wd.heap.size := (by omega)); try (have hz2wd : w.heap.size + 1 + 1 < wd.heap.size := (by omega))))
      go_ret2
      exact ⟨by rw [HP.out]; rfl, (by repeat (first | exact Below.refl _ _ | assumption | refine Below.drew ?_ | refine Below.alloc ?_ (by first | omega | (simp; omega) | (simp; done)) _ | refine Below.setCell ?_ (by first | omega | (simp; omega) | (simp; done)) _))⟩
    by_cases k4 : t1 = 4
    · have HP := Lib.hid (place_is (by omega) hw (.inr k4))
      clear hw
      go_enter Tryd.func11, Tryd.ntmps11
      go_wp2_with (first | (go_at_call 36; refine (rSize _ _ _ _ (HO.out.below (by repeat (first | exact Below.refl _ _ | assumption | refine Below.drew ?_ | refine Below.alloc ?_ (by first | omega | (simp; omega) | (simp; done)) _ | refine Below.setCell ?_ (by first | omega | (simp; omega) | (simp; done)) _)))).mono ?_; rintro e wc ⟨rfl, hbc⟩; have hBc : Below w.heap.size w wc := Below.trans (by repeat (first | exact Below.refl _ _ | assumption | refine Below.drew ?_ | refine Below.alloc ?_ (by first | omega | (simp; omega) | (simp; done)) _ | refine Below.setCell ?_ (by first | omega | (simp; omega) | (simp; done)) _)) (hbc.mono (by first | omega | (simp; omega) | (simp; done))); obtain ⟨hcc, hfc⟩ := bcell hbc; have hzc := hbc.size; try simp at hzc; try (have hz0' : w.heap.size < wc.heap.size := (by omega)); try (have hz1' : w.heap.size + 1 < wc.heap.size := (by omega)); try (have hz2' : w.heap.size + 1 + 1 < wc.heap.size := (by omega))) | (go_at_call 37; refine (CW.out _ (by repeat (first | exact Below.refl _ _ | assumption | refine Below.drew ?_ | refine Below.alloc ?_ (by first | omega | (simp; omega) | (simp; done)) _ | refine Below.setCell ?_ (by first | omega | (simp; omega) | (simp; done)) _))).mono ?_; rintro e wd ⟨rfl, hbwd⟩; have hBwd : Below w.heap.size w wd := Below.trans (by repeat (first | exact Below.refl _ _ | assumption | refine Below.drew ?_ | refine Below.alloc ?_ (by first | omega | (simp; omega) | (simp; done)) _ | refine Below.setCell ?_ (by first | omega | (simp; omega) | (simp; done)) _)) (hbwd.mono (by first | omega | (simp; omega) | (simp; done) | (have := (show Below w.heap.size w _ from by assumption).size; omega))); obtain ⟨hccwd, hfcwd⟩ := bcell hbwd; have hzwd := hbwd.size; try simp at hzwd; try (have hz0wd : w.heap.size < wd.heap.size := (by omega)); try (have hz1wd : w.heap.size + 1 < wd.heap.size := (by omega)); try (have hz2wd : w.heap.size + 1 + 1 < wd.heap.size := (by omega))))
      go_ret2
      exact ⟨by rw [HP.out]; rfl, (by repeat (first | exact Below.refl _ _ | assumption | refine Below.drew ?_ | refine Below.alloc ?_ (by first | omega | (simp; omega) | (simp; done)) _ | refine Below.setCell ?_ (by first | omega | (simp; omega) | (simp; done)) _))⟩
    · have HP := Lib.hid (place_not hw k2 k4)
      clear hw
      go_enter Tryd.func11, Tryd.ntmps11
      go_wp2_with (first | (go_at_call 36; refine (rSize _ _ _ _ (HO.out.below (by repeat (first | exact Below.refl _ _ | assumption | refine Below.drew ?_ | refine Below.alloc ?_ (by first | omega | (simp; omega) | (simp; done)) _ | refine Below.setCell ?_ (by first | omega | (simp; omega) | (simp; done)) _)))).mono ?_; rintro e wc ⟨rfl, hbc⟩; have hBc : Below w.heap.size w wc := Below.trans (by repeat (first | exact Below.refl _ _ | assumption | refine Below.drew ?_ | refine Below.alloc ?_ (by first | omega | (simp; omega) | (simp; done)) _ | refine Below.setCell ?_ (by first | omega | (simp; omega) | (simp; done)) _)) (hbc.mono (by first | omega | (simp; omega) | (simp; done))); obtain ⟨hcc, hfc⟩ := bcell hbc; have hzc := hbc.size; try simp at hzc; try (have hz0' : w.heap.size < wc.heap.size := (by omega)); try (have hz1' : w.heap.size + 1 < wc.heap.size := (by omega)); try (have hz2' : w.heap.size + 1 + 1 < wc.heap.size := (by omega))) | (go_at_call 37; refine (CW.out _ (by repeat (first | exact Below.refl _ _ | assumption | refine Below.drew ?_ | refine Below.alloc ?_ (by first | omega | (simp; omega) | (simp; done)) _ | refine Below.setCell ?_ (by first | omega | (simp; omega) | (simp; done)) _))).mono ?_; rintro e wd ⟨rfl, hbwd⟩; have hBwd : Below w.heap.size w wd := Below.trans (by repeat (first | exact Below.refl _ _ | assumption | refine Below.drew ?_ | refine Below.alloc ?_ (by first | omega | (simp; omega) | (simp; done)) _ | refine Below.setCell ?_ (by first | omega | (simp; omega) | (simp; done)) _)) (hbwd.mono (by first | omega | (simp; omega) | (simp; done) | (have := (show Below w.heap.size w _ from by assumption).size; omega))); obtain ⟨hccwd, hfcwd⟩ := bcell hbwd; have hzwd := hbwd.size; try simp at hzwd; try (have hz0wd : w.heap.size < wd.heap.size := (by omega)); try (have hz1wd : w.heap.size + 1 < wd.heap.size := (by omega)); try (have hz2wd : w.heap.size + 1 + 1 < wd.heap.size := (by omega))))
      go_ret2
      exact ⟨by rw [HP.out]; rfl, (by repeat (first | exact Below.refl _ _ | assumption | refine Below.drew ?_ | refine Below.alloc ?_ (by first | omega | (simp; omega) | (simp; done)) _ | refine Below.setCell ?_ (by first | omega | (simp; omega) | (simp; done)) _))⟩

set_option maxHeartbeats 1000000 in
theorem fPlace (k p c x : Int) (w : World) (h0 : 0 ≤ x) (hm : x ≤ 18446744073709551615) : Calls Tryd.prog 12 #[conf k p c, .int .u64 x] w fun e w' => e = .returned (plc (placeB k p c x) x) ∧ Below w.heap.size w w' := by
  have hs := sizeN_bd k p c
  have e1 : IntKind.u64.wrap (sizeN k p c) = sizeN k p c := wu64 (by omega) (by omega)
  by_cases hf : Fit k p c
  case neg =>
    have hF := fitsB_no hf
    have HP := Lib.hid (place_far (k := k) (p := p) (c := c) (x := x) (by rw [sizeN_no hf]; exact h0))
    clear hf
    go_enter Tryd.func12, Tryd.ntmps12
    go_wp2_with (first | (go_at_call 33; refine (fFits _ _ _ _).mono ?_; rintro e wc ⟨rfl, hbc⟩; have hBc : Below w.heap.size w wc := Below.trans (by repeat (first | exact Below.refl _ _ | assumption | refine Below.drew ?_ | refine Below.alloc ?_ (by first | omega | (simp; omega) | (simp; done)) _ | refine Below.setCell ?_ (by first | omega | (simp; omega) | (simp; done)) _)) (hbc.mono (by first | omega | (simp; omega) | (simp; done))); obtain ⟨hcc, hfc⟩ := bcell hbc; have hzc := hbc.size; try simp at hzc; try (have hz0' : w.heap.size < wc.heap.size := (by omega)); try (have hz1' : w.heap.size + 1 < wc.heap.size := (by omega)); try (have hz2' : w.heap.size + 1 + 1 < wc.heap.size := (by omega))))
    go_ret2
    exact ⟨by rw [HP.out]; rfl, (by repeat (first | exact Below.refl _ _ | assumption | refine Below.drew ?_ | refine Below.alloc ?_ (by first | omega | (simp; omega) | (simp; done)) _ | refine Below.setCell ?_ (by first | omega | (simp; omega) | (simp; done)) _))⟩
  have hF := fitsB_yes hf
  have HF := Lib.hid hf
  clear hf
  by_cases h : sizeN k p c ≤ x
  · have HP := Lib.hid (place_far h)
    go_enter Tryd.func12, Tryd.ntmps12
    go_wp2_with (first | (go_at_call 33; refine (fFits _ _ _ _).mono ?_; rintro e wc ⟨rfl, hbc⟩; have hBc : Below w.heap.size w wc := Below.trans (by repeat (first | exact Below.refl _ _ | assumption | refine Below.drew ?_ | refine Below.alloc ?_ (by first | omega | (simp; omega) | (simp; done)) _ | refine Below.setCell ?_ (by first | omega | (simp; omega) | (simp; done)) _)) (hbc.mono (by first | omega | (simp; omega) | (simp; done))); obtain ⟨hcc, hfc⟩ := bcell hbc; have hzc := hbc.size; try simp at hzc; try (have hz0' : w.heap.size < wc.heap.size := (by omega)); try (have hz1' : w.heap.size + 1 < wc.heap.size := (by omega)); try (have hz2' : w.heap.size + 1 + 1 < wc.heap.size := (by omega))) | (go_at_call 29; refine (fSize _ _ _ _).mono ?_; rintro e wd ⟨rfl, hbwd⟩; have hBwd : Below w.heap.size w wd := Below.trans (by repeat (first | exact Below.refl _ _ | assumption | refine Below.drew ?_ | refine Below.alloc ?_ (by first | omega | (simp; omega) | (simp; done)) _ | refine Below.setCell ?_ (by first | omega | (simp; omega) | (simp; done)) _)) (hbwd.mono (by first | omega | (simp; omega) | (simp; done) | (have := (show Below w.heap.size w _ from by assumption).size; omega))); obtain ⟨hccwd, hfcwd⟩ := bcell hbwd; have hzwd := hbwd.size; try simp at hzwd; try (have hz0wd : w.heap.size < wd.heap.size := (by omega)); try (have hz1wd : w.heap.size + 1 < wd.heap.size := (by omega)); try (have hz2wd : w.heap.size + 1 + 1 < wd.heap.size := (by omega))))
    go_ret2
    exact ⟨by rw [HP.out]; rfl, (by repeat (first | exact Below.refl _ _ | assumption | refine Below.drew ?_ | refine Below.alloc ?_ (by first | omega | (simp; omega) | (simp; done)) _ | refine Below.setCell ?_ (by first | omega | (simp; omega) | (simp; done)) _))⟩
  · have e2 : IntKind.i64.wrap x = x := w64 (by omega) (by omega)
    obtain ⟨t1, t2, t3, hw⟩ : ∃ t1 t2 t3, whereN k p c x = (t1, t2, t3) := ⟨_, _, _, rfl⟩
    have CW : Hid (∀ w1, Calls Tryd.prog 38 #[conf k p c, .int .i64 x] w1 fun e w' => e = .returned (.tuple #[.int .i64 t1, .int .i64 t2, .int .i64 t3]) ∧ Below w1.heap.size w1 w') := Lib.hid (fun w1 => by have := fWhere_ok k p c x w1 HF.out h0 (by omega); rw [hw] at this; exact this)
    by_cases k2 : t1 = 2
    · have HP := Lib.hid (place_is (by omega) hw (.inl k2))
      clear hw
      go_enter Tryd.func12, Tryd.ntmps12
      go_wp2_with (first | (go_at_call 33; refine (fFits _ _ _ _).mono ?_; rintro e wc ⟨rfl, hbc⟩; have hBc : Below w.heap.size w wc := Below.trans (by repeat (first | exact Below.refl _ _ | assumption | refine Below.drew ?_ | refine Below.alloc ?_ (by first | omega | (simp; omega) | (simp; done)) _ | refine Below.setCell ?_ (by first | omega | (simp; omega) | (simp; done)) _)) (hbc.mono (by first | omega | (simp; omega) | (simp; done))); obtain ⟨hcc, hfc⟩ := bcell hbc; have hzc := hbc.size; try simp at hzc; try (have hz0' : w.heap.size < wc.heap.size := (by omega)); try (have hz1' : w.heap.size + 1 < wc.heap.size := (by omega)); try (have hz2' : w.heap.size + 1 + 1 < wc.heap.size := (by omega))) | (go_at_call 29; refine (fSize _ _ _ _).mono ?_; rintro e wd ⟨rfl, hbwd⟩; have hBwd : Below w.heap.size w wd := Below.trans (by repeat (first | exact Below.refl _ _ | assumption | refine Below.drew ?_ | refine Below.alloc ?_ (by first | omega | (simp; omega) | (simp; done)) _ | refine Below.setCell ?_ (by first | omega | (simp; omega) | (simp; done)) _)) (hbwd.mono (by first | omega | (simp; omega) | (simp; done) | (have := (show Below w.heap.size w _ from by assumption).size; omega))); obtain ⟨hccwd, hfcwd⟩ := bcell hbwd; have hzwd := hbwd.size; try simp at hzwd; try (have hz0wd : w.heap.size < wd.heap.size := (by omega)); try (have hz1wd : w.heap.size + 1 < wd.heap.size := (by omega)); try (have hz2wd : w.heap.size + 1 + 1 < wd.heap.size := (by omega))) | (go_at_call 38; refine (CW.out _).mono ?_; rintro e we ⟨rfl, hbwe⟩; have hBwe : Below w.heap.size w we := Below.trans (by repeat (first | exact Below.refl _ _ | assumption | refine Below.drew ?_ | refine Below.alloc ?_ (by first | omega | (simp; omega) | (simp; done)) _ | refine Below.setCell ?_ (by first | omega | (simp; omega) | (simp; done)) _)) (hbwe.mono (by first | omega | (simp; omega) | (simp; done) | (have := (show Below w.heap.size w _ from by assumption).size; omega))); obtain ⟨hccwe, hfcwe⟩ := bcell hbwe; have hzwe := hbwe.size; try simp at hzwe; try (have hz0we : w.heap.size < we.heap.size := (by omega)); try (have hz1we : w.heap.size + 1 < we.heap.size := (by omega)); try (have hz2we : w.heap.size + 1 + 1 < we.heap.size := (by omega))))
      go_ret2
      exact ⟨by rw [HP.out]; rfl, (by repeat (first | exact Below.refl _ _ | assumption | refine Below.drew ?_ | refine Below.alloc ?_ (by first | omega | (simp; omega) | (simp; done)) _ | refine Below.setCell ?_ (by first | omega | (simp; omega) | (simp; done)) _))⟩
    by_cases k4 : t1 = 4
    · have HP := Lib.hid (place_is (by omega) hw (.inr k4))
      clear hw
      go_enter Tryd.func12, Tryd.ntmps12
      go_wp2_with (first | (go_at_call 33; refine (fFits _ _ _ _).mono ?_; rintro e wc ⟨rfl, hbc⟩; have hBc : Below w.heap.size w wc := Below.trans (by repeat (first | exact Below.refl _ _ | assumption | refine Below.drew ?_ | refine Below.alloc ?_ (by first | omega | (simp; omega) | (simp; done)) _ | refine Below.setCell ?_ (by first | omega | (simp; omega) | (simp; done)) _)) (hbc.mono (by first | omega | (simp; omega) | (simp; done))); obtain ⟨hcc, hfc⟩ := bcell hbc; have hzc := hbc.size; try simp at hzc; try (have hz0' : w.heap.size < wc.heap.size := (by omega)); try (have hz1' : w.heap.size + 1 < wc.heap.size := (by omega)); try (have hz2' : w.heap.size + 1 + 1 < wc.heap.size := (by omega))) | (go_at_call 29; refine (fSize _ _ _ _).mono ?_; rintro e wd ⟨rfl, hbwd⟩; have hBwd : Below w.heap.size w wd := Below.trans (by repeat (first | exact Below.refl _ _ | assumption | refine Below.drew ?_ | refine Below.alloc ?_ (by first | omega | (simp; omega) | (simp; done)) _ | refine Below.setCell ?_ (by first | omega | (simp; omega) | (simp; done)) _)) (hbwd.mono (by first | omega | (simp; omega) | (simp; done) | (have := (show Below w.heap.size w _ from by assumption).size; omega))); obtain ⟨hccwd, hfcwd⟩ := bcell hbwd; have hzwd := hbwd.size; try simp at hzwd; try (have hz0wd : w.heap.size < wd.heap.size := (by omega)); try (have hz1wd : w.heap.size + 1 < wd.heap.size := (by omega)); try (have hz2wd : w.heap.size + 1 + 1 < wd.heap.size := (by omega))) | (go_at_call 38; refine (CW.out _).mono ?_; rintro e we ⟨rfl, hbwe⟩; have hBwe : Below w.heap.size w we := Below.trans (by repeat (first | exact Below.refl _ _ | assumption | refine Below.drew ?_ | refine Below.alloc ?_ (by first | omega | (simp; omega) | (simp; done)) _ | refine Below.setCell ?_ (by first | omega | (simp; omega) | (simp; done)) _)) (hbwe.mono (by first | omega | (simp; omega) | (simp; done) | (have := (show Below w.heap.size w _ from by assumption).size; omega))); obtain ⟨hccwe, hfcwe⟩ := bcell hbwe; have hzwe := hbwe.size; try simp at hzwe; try (have hz0we : w.heap.size < we.heap.size := (by omega)); try (have hz1we : w.heap.size + 1 < we.heap.size := (by omega)); try (have hz2we : w.heap.size + 1 + 1 < we.heap.size := (by omega))))
      go_ret2
      exact ⟨by rw [HP.out]; rfl, (by repeat (first | exact Below.refl _ _ | assumption | refine Below.drew ?_ | refine Below.alloc ?_ (by first | omega | (simp; omega) | (simp; done)) _ | refine Below.setCell ?_ (by first | omega | (simp; omega) | (simp; done)) _))⟩
    · have HP := Lib.hid (place_not hw k2 k4)
      clear hw
      have b2 : (t1 != 2) = true := by simpa using k2
      have b4 : (t1 != 4) = true := by simpa using k4
      go_enter Tryd.func12, Tryd.ntmps12
      go_wp2_with (first | (go_at_call 33; refine (fFits _ _ _ _).mono ?_; rintro e wc ⟨rfl, hbc⟩; have hBc : Below w.heap.size w wc := Below.trans (by repeat (first | exact Below.refl _ _ | assumption | refine Below.drew ?_ | refine Below.alloc ?_ (by first | omega | (simp; omega) | (simp; done)) _ | refine Below.setCell ?_ (by first | omega | (simp; omega) | (simp; done)) _)) (hbc.mono (by first | omega | (simp; omega) | (simp; done))); obtain ⟨hcc, hfc⟩ := bcell hbc; have hzc := hbc.size; try simp at hzc; try (have hz0' : w.heap.size < wc.heap.size := (by omega)); try (have hz1' : w.heap.size + 1 < wc.heap.size := (by omega)); try (have hz2' : w.heap.size + 1 + 1 < wc.heap.size := (by omega))) | (go_at_call 29; refine (fSize _ _ _ _).mono ?_; rintro e wd ⟨rfl, hbwd⟩; have hBwd : Below w.heap.size w wd := Below.trans (by repeat (first | exact Below.refl _ _ | assumption | refine Below.drew ?_ | refine Below.alloc ?_ (by first | omega | (simp; omega) | (simp; done)) _ | refine Below.setCell ?_ (by first | omega | (simp; omega) | (simp; done)) _)) (hbwd.mono (by first | omega | (simp; omega) | (simp; done) | (have := (show Below w.heap.size w _ from by assumption).size; omega))); obtain ⟨hccwd, hfcwd⟩ := bcell hbwd; have hzwd := hbwd.size; try simp at hzwd; try (have hz0wd : w.heap.size < wd.heap.size := (by omega)); try (have hz1wd : w.heap.size + 1 < wd.heap.size := (by omega)); try (have hz2wd : w.heap.size + 1 + 1 < wd.heap.size := (by omega))) | (go_at_call 38; refine (CW.out _).mono ?_; rintro e we ⟨rfl, hbwe⟩; have hBwe : Below w.heap.size w we := Below.trans (by repeat (first | exact Below.refl _ _ | assumption | refine Below.drew ?_ | refine Below.alloc ?_ (by first | omega | (simp; omega) | (simp; done)) _ | refine Below.setCell ?_ (by first | omega | (simp; omega) | (simp; done)) _)) (hbwe.mono (by first | omega | (simp; omega) | (simp; done) | (have := (show Below w.heap.size w _ from by assumption).size; omega))); obtain ⟨hccwe, hfcwe⟩ := bcell hbwe; have hzwe := hbwe.size; try simp at hzwe; try (have hz0we : w.heap.size < we.heap.size := (by omega)); try (have hz1we : w.heap.size + 1 < we.heap.size := (by omega)); try (have hz2we : w.heap.size + 1 + 1 < we.heap.size := (by omega))))
      go_ret2
      exact ⟨by rw [HP.out]; rfl, (by repeat (first | exact Below.refl _ _ | assumption | refine Below.drew ?_ | refine Below.alloc ?_ (by first | omega | (simp; omega) | (simp; done)) _ | refine Below.setCell ?_ (by first | omega | (simp; omega) | (simp; done)) _))⟩

end Go.Proofs.YthigfjelgbdcfaaDoor

/-! Layer 16: what is raised and caught; where a write stands. -/
namespace Go.Proofs.YthigfjelgbdcfaaDoor
open Go.RowKit

/-- what 'want(false, r)' raises -/
def oddV (r : Int) : Value := .iface 102 (.agg #[.int .i64 r])
def oddCh (r : Int) : List PanicEntry := [{ v := oddV r, recovered := false }]

theorem want_yes (r : Int) (w : World) : Calls Tryd.prog 40 #[.bool true, .int .i64 r] w fun e w' => e = .returned (.tuple #[]) ∧ w = w' := by
  go_enter Tryd.func40, Tryd.ntmps40
  go_wp2
  exact ⟨rfl, _, results_none rfl _ _ _, rfl, rfl⟩

theorem want_no (r : Int) (w : World) : Calls Tryd.prog 40 #[.bool false, .int .i64 r] w fun e w' => e = .panicked (oddCh r) ∧ w = w' := by
  go_enter Tryd.func40, Tryd.ntmps40
  go_wp2
  exact ⟨rfl, rfl, rfl⟩

theorem odd_assert (r : Int) (w : World) : (Instr.typeAssert (Value.iface 102 (.agg #[.int .i64 r])) 20 102 true).run Tryd.prog w = .ok (.tuple #[.agg #[.int .i64 r], .bool true]) w := by kernel_rfl

/-- 'caught', deferred, of a frame that panics with such a thing: it recovers, and lays the reason. -/
theorem caught_panic (k : Nat) (r x : Int) (w : World) (hk : k < w.heap.size) (hc : w.cell? ⟨k, 0, none⟩ = some (.int .i64 x)) (hz : w.frozen? ⟨k, 0, none⟩ = false) :
    CallsD Tryd.prog 39 #[.pointer (some ⟨k, 0, none⟩)] (.panicking (oddCh r)) w fun e u' w' =>
      e = .returned (.tuple #[]) ∧ u' = .panicking [{ v := oddV r, recovered := true }] ∧ Below w.heap.size (w.setCell ⟨k, 0, none⟩ (.int .i64 r)) w' := by
  have hta := odd_assert
  refine callsD_of_wpS Tryd.func39 rfl fun c₀ cs hu => ?_
  simp only [oddCh, oddV] at hu
  apply wpS_seq
  apply wpS_region
  simp [wpOpsS, go_sem, recoverD, hu, Tryd.ntmps39, Exit.thenS]
  refine wpS_of_wp ?_
  simp only [Array.replicate_succ, Array.replicate_zero, List.push_toArray, List.nil_append, List.cons_append]
  go_wp2
  exact ⟨rfl, _, rfl, _, results_none rfl _ _ _, rfl, rfl, (by repeat (first | exact Below.refl _ _ | assumption | refine Below.drew ?_ | refine Below.alloc ?_ (by first | omega | (simp; omega) | (simp; done)) _ | refine Below.setCell ?_ (by first | omega | (simp; omega) | (simp; done)) _))⟩

/-- 'caught', deferred, of a frame that returns: it does nothing. -/
theorem caught_idle (k : Nat) (w : World) :
    CallsD Tryd.prog 39 #[.pointer (some ⟨k, 0, none⟩)] .returning w fun e u' w' => e = .returned (.tuple #[]) ∧ u' = .returning ∧ w = w' := by
  refine callsD_of_wpS Tryd.func39 rfl fun c₀ cs hu => ?_
  apply wpS_seq
  apply wpS_region
  simp [wpOpsS, go_sem, recoverD, hu, Tryd.ntmps39, Exit.thenS]
  refine wpS_of_wp ?_
  simp only [Array.replicate_succ, Array.replicate_zero, List.push_toArray, List.nil_append, List.cons_append]
  go_wp2
  exact ⟨rfl, .returning, by rw [← hu], _, results_none rfl _ _ _, rfl, rfl, rfl⟩

/-- the answer of Spot -/
def spotV (f i : Int) : Value := .tuple #[.int .i64 (f + 1 + 2 * i), .int .i64 (f + 2 + 2 * i), .int .i64 0]
def spotE (r : Int) : Value := .tuple #[.int .i64 0, .int .i64 0, .int .i64 r]
def SpotOk (k p c q i : Int) : Prop := Fit k p c ∧ 0 ≤ q ∧ q < p ∧ 0 ≤ i ∧ i < homeF k c + 2 * p

/-- a frame's two cells of its own: the configuration, and the reason -/
def Two (w W : World) (k p c r : Int) : Prop := Below w.heap.size w W ∧ W.heap[w.heap.size]? = some (.cells #[.int .i64 k, .int .i64 p, .int .i64 c] 24) ∧ W.heap[w.heap.size + 1]? = some (atErr r)
theorem two_start (w : World) (k p c : Int) : Two w ((w.alloc (.cells #[.int .i64 k, .int .i64 p, .int .i64 c] 24)).alloc (atErr 0)) k p c 0 := ⟨(by repeat (first | exact Below.refl _ _ | assumption | refine Below.drew ?_ | refine Below.alloc ?_ (by first | omega | (simp; omega) | (simp; done)) _ | refine Below.setCell ?_ (by first | omega | (simp; omega) | (simp; done)) _)), blk_alloc' (World.alloc_heap_new w _), alloc_at _ _ (by simp)⟩
theorem two_call {w W W' : World} {k p c r : Int} (h : Two w W k p c r) (hb : Below W.heap.size W W') : Two w W' k p c r := by
  have l0 := (Array.getElem?_eq_some_iff.1 h.2.1).1
  have l1 := (Array.getElem?_eq_some_iff.1 h.2.2).1
  exact ⟨h.1.trans (hb.mono h.1.size), (hb.block _ l0).trans h.2.1, (hb.block _ l1).trans h.2.2⟩
theorem two_set {w W : World} {k p c r : Int} (h : Two w W k p c r) (r' : Int) : Two w (W.setCell ⟨w.heap.size + 1, 0, none⟩ (.int .i64 r')) k p c r' :=
  ⟨h.1.setCell (p := ⟨w.heap.size + 1, 0, none⟩) (by simp) _, blk_far h.2.1 (by omega) _, blk_set h.2.2 _⟩
theorem two_cells {w W : World} {k p c r : Int} (h : Two w W k p c r) : W.cell? ⟨w.heap.size, 0, none⟩ = some (.int .i64 k) ∧ W.cell? ⟨w.heap.size, 1, none⟩ = some (.int .i64 p) ∧ W.cell? ⟨w.heap.size, 2, none⟩ = some (.int .i64 c) ∧
    W.cell? ⟨w.heap.size + 1, 0, none⟩ = some (.int .i64 r) ∧ W.frozen? ⟨w.heap.size + 1, 0, none⟩ = false ∧ w.heap.size + 1 < W.heap.size :=
  ⟨blk_cell h.2.1 rfl, blk_cell h.2.1 rfl, blk_cell h.2.1 rfl, blk_cell h.2.2 rfl, blk_frozen h.2.2, (Array.getElem?_eq_some_iff.1 h.2.2).1⟩

theorem wSpot_conf (k p c q i : Int) (w : World) (h : ¬ Fit k p c) : Calls Tryd.prog 18 #[conf k p c, .int .i64 q, .int .i64 i] w fun e w' => e = .returned (spotE 5) ∧ Below w.heap.size w w' := by
  have hF := fitsB_no h
  clear h
  go_enter_defers Tryd.func18, Tryd.ntmps18
  go_wp2_with (first | (go_at_call 41; refine (rFits _ _ _ _).mono ?_; rintro e wcT1 ⟨rfl, hbc⟩; have T1 := two_call (two_start _ _ _ _) hbc; obtain ⟨c0, c1, c2, c3, c4, hs⟩ := two_cells T1; clear hbc) | (go_at_call_of 40 (Value.bool true); refine (want_yes _ _).mono ?_; rintro e w' ⟨rfl, rfl⟩) | (go_at_call_of 40 (Value.bool false); refine (want_no _ _).mono ?_; rintro e w' ⟨rfl, rfl⟩))
  refine leaves_cons (f := 39) (args := #[.pointer (some ⟨w.heap.size + 1, 0, none⟩)]) (by simp) (by simp [go_sem]) ?_
  refine (caught_panic (w.heap.size + 1) 5 0 _ hs c3 c4).mono ?_
  rintro e u' w'' ⟨rfl, rfl, hB⟩
  have T2 := two_call (two_set T1 5) (by simpa using hB)
  have hc := (two_cells T2).2.2.2.1
  simp [Leaves, settle, results, spotE, Tryd.results18, go_sem, hc]
  exact T2.1

theorem wSpot_at (k p c q i : Int) (w : World) (h : Fit k p c) (hq : q < 0 ∨ p ≤ q) : Calls Tryd.prog 18 #[conf k p c, .int .i64 q, .int .i64 i] w fun e w' => e = .returned (spotE 1) ∧ Below w.heap.size w w' := by
  have hF := fitsB_yes h
  have HF := Lib.hid h
  have HQ := Lib.hid (show (3 : Int) < 0 ∨ (4 : Int) < 3 ∨ q < 0 ∨ p ≤ q by omega)
  clear h hq
  go_enter_defers Tryd.func18, Tryd.ntmps18
  go_wp2_with (first | (go_at_call 41; refine (rFits _ _ _ _).mono ?_; rintro e wcT1 ⟨rfl, hbc⟩; have T1 := two_call (two_start _ _ _ _) hbc; obtain ⟨c0, c1, c2, c3, c4, hs⟩ := two_cells T1; clear hbc) | (go_at_call_of 40 (Value.bool true); refine (want_yes _ _).mono ?_; rintro e w' ⟨rfl, rfl⟩) | (go_at_call_of 40 (Value.bool false); refine (want_no _ _).mono ?_; rintro e w' ⟨rfl, rfl⟩) | (go_at_call 27; refine (rAt_arg _ _ _ _ _ _ HF.out HQ.out).mono ?_; rintro e wcT2 ⟨rfl, hbc⟩; have T2 := two_call (T1) hbc; obtain ⟨c0, c1, c2, c3, c4, hs⟩ := two_cells T2; clear hbc))
  refine leaves_cons (f := 39) (args := #[.pointer (some ⟨w.heap.size + 1, 0, none⟩)]) (by simp) (by simp [go_sem]) ?_; have TT := two_set T2 1; obtain ⟨_, _, _, d3, d4, ds⟩ := two_cells TT; refine (caught_panic (w.heap.size + 1) 1 _ _ ds d3 d4).mono ?_; rintro e u' w'' ⟨rfl, rfl, hB⟩; have T9 := two_call (two_set TT 1) (by simpa using hB); have hc := (two_cells T9).2.2.2.1; simp [Leaves, settle, results, spotE, Tryd.results18, go_sem, hc]; exact T9.1

theorem wSpot_arg (k p c q i : Int) (w : World) (ho : Objs w) (h : Fit k p c) (q0 : 0 ≤ q) (q1 : q < p) (hi : i < 0 ∨ homeF k c + 2 * p ≤ i) : Calls Tryd.prog 18 #[conf k p c, .int .i64 q, .int .i64 i] w fun e w' => e = .returned (spotE 1) ∧ Below w.heap.size w w' := by
  have hF := fitsB_yes h
  have HF := Lib.hid h
  have HO := Lib.hid ho
  clear h ho
  by_cases i0 : i < 0
  · have i0' : ¬ (0 ≤ i) := by omega
    clear hi
    go_enter_defers Tryd.func18, Tryd.ntmps18
    go_wp2_with (first | (go_at_call 41; refine (rFits _ _ _ _).mono ?_; rintro e wcT1 ⟨rfl, hbc⟩; have T1 := two_call (two_start _ _ _ _) hbc; obtain ⟨c0, c1, c2, c3, c4, hs⟩ := two_cells T1; clear hbc) | (go_at_call_of 40 (Value.bool true); refine (want_yes _ _).mono ?_; rintro e w' ⟨rfl, rfl⟩) | (go_at_call_of 40 (Value.bool false); refine (want_no _ _).mono ?_; rintro e w' ⟨rfl, rfl⟩) | (go_at_call 27; refine (rAt_ok _ _ _ _ _ _ (HO.out.below T1.1) HF.out (by omega) (by omega) q0 q1).mono ?_; rintro e wcT2 ⟨rfl, hbc⟩; have T2 := two_call (T1) hbc; obtain ⟨c0, c1, c2, c3, c4, hs⟩ := two_cells T2; clear hbc))
    refine leaves_cons (f := 39) (args := #[.pointer (some ⟨w.heap.size + 1, 0, none⟩)]) (by simp) (by simp [go_sem]) ?_; have TT := two_set T2 0; obtain ⟨_, _, _, d3, d4, ds⟩ := two_cells TT; refine (caught_panic (w.heap.size + 1) 1 _ _ ds d3 d4).mono ?_; rintro e u' w'' ⟨rfl, rfl, hB⟩; have T9 := two_call (two_set TT 1) (by simpa using hB); have hc := (two_cells T9).2.2.2.1; simp [Leaves, settle, results, spotE, Tryd.results18, go_sem, hc]; exact T9.1
  · have i0' : 0 ≤ i := by omega
    have i1 : ¬ (i < homeF k c + 2 * p) := by omega
    clear hi
    go_enter_defers Tryd.func18, Tryd.ntmps18
    go_wp2_with (first | (go_at_call 41; refine (rFits _ _ _ _).mono ?_; rintro e wcT1 ⟨rfl, hbc⟩; have T1 := two_call (two_start _ _ _ _) hbc; obtain ⟨c0, c1, c2, c3, c4, hs⟩ := two_cells T1; clear hbc) | (go_at_call_of 40 (Value.bool true); refine (want_yes _ _).mono ?_; rintro e w' ⟨rfl, rfl⟩) | (go_at_call_of 40 (Value.bool false); refine (want_no _ _).mono ?_; rintro e w' ⟨rfl, rfl⟩) | (go_at_call 40; rw [show decide (i < homeF k c + 2 * p) = false from decide_eq_false (by omega)]; refine (want_no _ _).mono ?_; rintro e w' ⟨rfl, rfl⟩) | (go_at_call 27; refine (rAt_ok _ _ _ _ _ _ (HO.out.below T1.1) HF.out (by omega) (by omega) q0 q1).mono ?_; rintro e wcT2 ⟨rfl, hbc⟩; have T2 := two_call (T1) hbc; obtain ⟨c0, c1, c2, c3, c4, hs⟩ := two_cells T2; clear hbc) | (go_at_call 44; refine (rMost _ _ _ _ (HO.out.below (two_set T2 0).1) HF.out).mono ?_; rintro e wcT3 ⟨rfl, hbc⟩; have T3 := two_call (two_set T2 0) hbc; obtain ⟨c0, c1, c2, c3, c4, hs⟩ := two_cells T3; clear hbc))
    refine leaves_cons (f := 39) (args := #[.pointer (some ⟨w.heap.size + 1, 0, none⟩)]) (by simp) (by simp [go_sem]) ?_; have TT := T3; obtain ⟨_, _, _, d3, d4, ds⟩ := two_cells TT; refine (caught_panic (w.heap.size + 1) 1 _ _ ds d3 d4).mono ?_; rintro e u' w'' ⟨rfl, rfl, hB⟩; have T9 := two_call (two_set TT 1) (by simpa using hB); have hc := (two_cells T9).2.2.2.1; simp [Leaves, settle, results, spotE, Tryd.results18, go_sem, hc]; exact T9.1

theorem wSpot_ok (k p c q i : Int) (w : World) (ho : Objs w) (h : Fit k p c) (q0 : 0 ≤ q) (q1 : q < p) (i0 : 0 ≤ i) (i1 : i < homeF k c + 2 * p) : Calls Tryd.prog 18 #[conf k p c, .int .i64 q, .int .i64 i] w fun e w' => e = .returned (spotV (atN k p c 3 q) i) ∧ Below w.heap.size w w' := by
  have hF := fitsB_yes h
  have HF := Lib.hid h
  have HO := Lib.hid ho
  have hb := homeF_bd h
  have hp16 : p ≤ 16 := by unfold Fit at h; omega
  have hat : 0 ≤ atN k p c 3 q ∧ atN k p c 3 q ≤ 100000 := at_bd h (by omega) (by omega) q0 q1
  clear h ho
  go_enter_defers Tryd.func18, Tryd.ntmps18
  go_wp2_with (first | (go_at_call 41; refine (rFits _ _ _ _).mono ?_; rintro e wcT1 ⟨rfl, hbc⟩; have T1 := two_call (two_start _ _ _ _) hbc; obtain ⟨c0, c1, c2, c3, c4, hs⟩ := two_cells T1; clear hbc) | (go_at_call_of 40 (Value.bool true); refine (want_yes _ _).mono ?_; rintro e w' ⟨rfl, rfl⟩) | (go_at_call_of 40 (Value.bool false); refine (want_no _ _).mono ?_; rintro e w' ⟨rfl, rfl⟩) | (go_at_call 27; refine (rAt_ok _ _ _ _ _ _ (HO.out.below T1.1) HF.out (by omega) (by omega) q0 q1).mono ?_; rintro e wcT2 ⟨rfl, hbc⟩; have T2 := two_call (T1) hbc; obtain ⟨c0, c1, c2, c3, c4, hs⟩ := two_cells T2; clear hbc) | (go_at_call 44; refine (rMost _ _ _ _ (HO.out.below (two_set T2 0).1) HF.out).mono ?_; rintro e wcT3 ⟨rfl, hbc⟩; have T3 := two_call (two_set T2 0) hbc; obtain ⟨c0, c1, c2, c3, c4, hs⟩ := two_cells T3; clear hbc))
  refine leaves_cons (f := 39) (args := #[.pointer (some ⟨w.heap.size + 1, 0, none⟩)]) (by simp) (by simp [go_sem]) ?_
  refine (caught_idle (w.heap.size + 1) _).mono ?_
  rintro e u' w'' ⟨rfl, rfl, rfl⟩
  have hc := (two_cells (two_set T3 0)).2.2.2.1
  simp [Leaves, settle, results, spotV, Tryd.results18, go_sem, hc]
  exact (two_set T3 0).1

theorem fSpot_conf (k p c q i : Int) (w : World) (h : ¬ Fit k p c) : Calls Tryd.prog 19 #[conf k p c, .int .i64 q, .int .i64 i] w fun e w' => e = .returned (spotE 5) ∧ Below w.heap.size w w' := by
  have hF := fitsB_no h
  clear h
  go_enter Tryd.func19, Tryd.ntmps19
  go_wp2_with (first | (go_at_call 33; refine (fFits _ _ _ _).mono ?_; rintro e wc ⟨rfl, hbc⟩; have hBc : Below w.heap.size w wc := Below.trans (by repeat (first | exact Below.refl _ _ | assumption | refine Below.drew ?_ | refine Below.alloc ?_ (by first | omega | (simp; omega) | (simp; done)) _ | refine Below.setCell ?_ (by first | omega | (simp; omega) | (simp; done)) _)) (hbc.mono (by first | omega | (simp; omega) | (simp; done))); obtain ⟨hcc, hfc⟩ := bcell hbc; have hzc := hbc.size; try simp at hzc; try (have hz0' : w.heap.size < wc.heap.size := (by omega)); try (have hz1' : w.heap.size + 1 < wc.heap.size := (by omega)); try (have hz2' : w.heap.size + 1 + 1 < wc.heap.size := (by omega))))
  go_ret3
  exact ⟨rfl, (by repeat (first | exact Below.refl _ _ | assumption | refine Below.drew ?_ | refine Below.alloc ?_ (by first | omega | (simp; omega) | (simp; done)) _ | refine Below.setCell ?_ (by first | omega | (simp; omega) | (simp; done)) _))⟩

theorem fSpot_at (k p c q i : Int) (w : World) (h : Fit k p c) (hq : q < 0 ∨ p ≤ q) : Calls Tryd.prog 19 #[conf k p c, .int .i64 q, .int .i64 i] w fun e w' => e = .returned (spotE 1) ∧ Below w.heap.size w w' := by
  have hF := fitsB_yes h
  have HF := Lib.hid h
  have HQ := Lib.hid (show (3 : Int) < 0 ∨ (4 : Int) < 3 ∨ q < 0 ∨ p ≤ q by omega)
  clear h hq
  go_enter Tryd.func19, Tryd.ntmps19
  go_wp2_with (first | (go_at_call 33; refine (fFits _ _ _ _).mono ?_; rintro e wc ⟨rfl, hbc⟩; have hBc : Below w.heap.size w wc := Below.trans (by repeat (first | exact Below.refl _ _ | assumption | refine Below.drew ?_ | refine Below.alloc ?_ (by first | omega | (simp; omega) | (simp; done)) _ | refine Below.setCell ?_ (by first | omega | (simp; omega) | (simp; done)) _)) (hbc.mono (by first | omega | (simp; omega) | (simp; done))); obtain ⟨hcc, hfc⟩ := bcell hbc; have hzc := hbc.size; try simp at hzc; try (have hz0' : w.heap.size < wc.heap.size := (by omega)); try (have hz1' : w.heap.size + 1 < wc.heap.size := (by omega)); try (have hz2' : w.heap.size + 1 + 1 < wc.heap.size := (by omega))) | (go_at_call 31; refine (fAt_arg _ _ _ _ _ _ HF.out HQ.out).mono ?_; rintro e wd ⟨rfl, hbwd⟩; have hBwd : Below w.heap.size w wd := Below.trans (by repeat (first | exact Below.refl _ _ | assumption | refine Below.drew ?_ | refine Below.alloc ?_ (by first | omega | (simp; omega) | (simp; done)) _ | refine Below.setCell ?_ (by first | omega | (simp; omega) | (simp; done)) _)) (hbwd.mono (by first | omega | (simp; omega) | (simp; done) | (have := (show Below w.heap.size w _ from by assumption).size; omega))); obtain ⟨hccwd, hfcwd⟩ := bcell hbwd; have hzwd := hbwd.size; try simp at hzwd; try (have hz0wd : w.heap.size < wd.heap.size := (by omega)); try (have hz1wd : w.heap.size + 1 < wd.heap.size := (by omega)); try (have hz2wd : w.heap.size + 1 + 1 < wd.heap.size := (by omega))))
  go_ret3
  exact ⟨rfl, (by repeat (first | exact Below.refl _ _ | assumption | refine Below.drew ?_ | refine Below.alloc ?_ (by first | omega | (simp; omega) | (simp; done)) _ | refine Below.setCell ?_ (by first | omega | (simp; omega) | (simp; done)) _))⟩

theorem fSpot_arg (k p c q i : Int) (w : World) (h : Fit k p c) (q0 : 0 ≤ q) (q1 : q < p) (hi : i < 0 ∨ homeF k c + 2 * p ≤ i) : Calls Tryd.prog 19 #[conf k p c, .int .i64 q, .int .i64 i] w fun e w' => e = .returned (spotE 1) ∧ Below w.heap.size w w' := by
  have hF := fitsB_yes h
  have HF := Lib.hid h
  clear h
  by_cases i0 : i < 0
  · clear hi
    go_enter Tryd.func19, Tryd.ntmps19
    go_wp2_with (first | (go_at_call 33; refine (fFits _ _ _ _).mono ?_; rintro e wc ⟨rfl, hbc⟩; have hBc : Below w.heap.size w wc := Below.trans (by repeat (first | exact Below.refl _ _ | assumption | refine Below.drew ?_ | refine Below.alloc ?_ (by first | omega | (simp; omega) | (simp; done)) _ | refine Below.setCell ?_ (by first | omega | (simp; omega) | (simp; done)) _)) (hbc.mono (by first | omega | (simp; omega) | (simp; done))); obtain ⟨hcc, hfc⟩ := bcell hbc; have hzc := hbc.size; try simp at hzc; try (have hz0' : w.heap.size < wc.heap.size := (by omega)); try (have hz1' : w.heap.size + 1 < wc.heap.size := (by omega)); try (have hz2' : w.heap.size + 1 + 1 < wc.heap.size := (by omega))) | (go_at_call 31; refine (fAt_ok _ _ _ _ _ _ HF.out (by omega) (by omega) q0 q1).mono ?_; rintro e wd ⟨rfl, hbwd⟩; have hBwd : Below w.heap.size w wd := Below.trans (by repeat (first | exact Below.refl _ _ | assumption | refine Below.drew ?_ | refine Below.alloc ?_ (by first | omega | (simp; omega) | (simp; done)) _ | refine Below.setCell ?_ (by first | omega | (simp; omega) | (simp; done)) _)) (hbwd.mono (by first | omega | (simp; omega) | (simp; done) | (have := (show Below w.heap.size w _ from by assumption).size; omega))); obtain ⟨hccwd, hfcwd⟩ := bcell hbwd; have hzwd := hbwd.size; try simp at hzwd; try (have hz0wd : w.heap.size < wd.heap.size := (by omega)); try (have hz1wd : w.heap.size + 1 < wd.heap.size := (by omega)); try (have hz2wd : w.heap.size + 1 + 1 < wd.heap.size := (by omega))))
    go_ret3
    exact ⟨rfl, (by repeat (first | exact Below.refl _ _ | assumption | refine Below.drew ?_ | refine Below.alloc ?_ (by first | omega | (simp; omega) | (simp; done)) _ | refine Below.setCell ?_ (by first | omega | (simp; omega) | (simp; done)) _))⟩
  · have i1 : homeF k c + 2 * p ≤ i := by omega
    clear hi
    go_enter Tryd.func19, Tryd.ntmps19
    go_wp2_with (first | (go_at_call 33; refine (fFits _ _ _ _).mono ?_; rintro e wc ⟨rfl, hbc⟩; have hBc : Below w.heap.size w wc := Below.trans (by repeat (first | exact Below.refl _ _ | assumption | refine Below.drew ?_ | refine Below.alloc ?_ (by first | omega | (simp; omega) | (simp; done)) _ | refine Below.setCell ?_ (by first | omega | (simp; omega) | (simp; done)) _)) (hbc.mono (by first | omega | (simp; omega) | (simp; done))); obtain ⟨hcc, hfc⟩ := bcell hbc; have hzc := hbc.size; try simp at hzc; try (have hz0' : w.heap.size < wc.heap.size := (by omega)); try (have hz1' : w.heap.size + 1 < wc.heap.size := (by omega)); try (have hz2' : w.heap.size + 1 + 1 < wc.heap.size := (by omega))) | (go_at_call 31; refine (fAt_ok _ _ _ _ _ _ HF.out (by omega) (by omega) q0 q1).mono ?_; rintro e wd ⟨rfl, hbwd⟩; have hBwd : Below w.heap.size w wd := Below.trans (by repeat (first | exact Below.refl _ _ | assumption | refine Below.drew ?_ | refine Below.alloc ?_ (by first | omega | (simp; omega) | (simp; done)) _ | refine Below.setCell ?_ (by first | omega | (simp; omega) | (simp; done)) _)) (hbwd.mono (by first | omega | (simp; omega) | (simp; done) | (have := (show Below w.heap.size w _ from by assumption).size; omega))); obtain ⟨hccwd, hfcwd⟩ := bcell hbwd; have hzwd := hbwd.size; try simp at hzwd; try (have hz0wd : w.heap.size < wd.heap.size := (by omega)); try (have hz1wd : w.heap.size + 1 < wd.heap.size := (by omega)); try (have hz2wd : w.heap.size + 1 + 1 < wd.heap.size := (by omega))) | (go_at_call 34; refine (fMost _ _ _ _ HF.out).mono ?_; rintro e we ⟨rfl, hbwe⟩; have hBwe : Below w.heap.size w we := Below.trans (by repeat (first | exact Below.refl _ _ | assumption | refine Below.drew ?_ | refine Below.alloc ?_ (by first | omega | (simp; omega) | (simp; done)) _ | refine Below.setCell ?_ (by first | omega | (simp; omega) | (simp; done)) _)) (hbwe.mono (by first | omega | (simp; omega) | (simp; done) | (have := (show Below w.heap.size w _ from by assumption).size; omega))); obtain ⟨hccwe, hfcwe⟩ := bcell hbwe; have hzwe := hbwe.size; try simp at hzwe; try (have hz0we : w.heap.size < we.heap.size := (by omega)); try (have hz1we : w.heap.size + 1 < we.heap.size := (by omega)); try (have hz2we : w.heap.size + 1 + 1 < we.heap.size := (by omega))))
    go_ret3
    exact ⟨rfl, (by repeat (first | exact Below.refl _ _ | assumption | refine Below.drew ?_ | refine Below.alloc ?_ (by first | omega | (simp; omega) | (simp; done)) _ | refine Below.setCell ?_ (by first | omega | (simp; omega) | (simp; done)) _))⟩

theorem fSpot_ok (k p c q i : Int) (w : World) (h : Fit k p c) (q0 : 0 ≤ q) (q1 : q < p) (i0 : 0 ≤ i) (i1 : i < homeF k c + 2 * p) : Calls Tryd.prog 19 #[conf k p c, .int .i64 q, .int .i64 i] w fun e w' => e = .returned (spotV (atN k p c 3 q) i) ∧ Below w.heap.size w w' := by
  have hF := fitsB_yes h
  have HF := Lib.hid h
  have hb := homeF_bd h
  have hp16 : p ≤ 16 := by unfold Fit at h; omega
  have hat : 0 ≤ atN k p c 3 q ∧ atN k p c 3 q ≤ 100000 := at_bd h (by omega) (by omega) q0 q1
  clear h
  go_enter Tryd.func19, Tryd.ntmps19
  go_wp2_with (first | (go_at_call 33; refine (fFits _ _ _ _).mono ?_; rintro e wc ⟨rfl, hbc⟩; have hBc : Below w.heap.size w wc := Below.trans (by repeat (first | exact Below.refl _ _ | assumption | refine Below.drew ?_ | refine Below.alloc ?_ (by first | omega | (simp; omega) | (simp; done)) _ | refine Below.setCell ?_ (by first | omega | (simp; omega) | (simp; done)) _)) (hbc.mono (by first | omega | (simp; omega) | (simp; done))); obtain ⟨hcc, hfc⟩ := bcell hbc; have hzc := hbc.size; try simp at hzc; try (have hz0' : w.heap.size < wc.heap.size := (by omega)); try (have hz1' : w.heap.size + 1 < wc.heap.size := (by omega)); try (have hz2' : w.heap.size + 1 + 1 < wc.heap.size := (by omega))) | (go_at_call 31; refine (fAt_ok _ _ _ _ _ _ HF.out (by omega) (by omega) q0 q1).mono ?_; rintro e wd ⟨rfl, hbwd⟩; have hBwd : Below w.heap.size w wd := Below.trans (by repeat (first | exact Below.refl _ _ | assumption | refine Below.drew ?_ | refine Below.alloc ?_ (by first | omega | (simp; omega) | (simp; done)) _ | refine Below.setCell ?_ (by first | omega | (simp; omega) | (simp; done)) _)) (hbwd.mono (by first | omega | (simp; omega) | (simp; done) | (have := (show Below w.heap.size w _ from by assumption).size; omega))); obtain ⟨hccwd, hfcwd⟩ := bcell hbwd; have hzwd := hbwd.size; try simp at hzwd; try (have hz0wd : w.heap.size < wd.heap.size := (by omega)); try (have hz1wd : w.heap.size + 1 < wd.heap.size := (by omega)); try (have hz2wd : w.heap.size + 1 + 1 < wd.heap.size := (by omega))) | (go_at_call 34; refine (fMost _ _ _ _ HF.out).mono ?_; rintro e we ⟨rfl, hbwe⟩; have hBwe : Below w.heap.size w we := Below.trans (by repeat (first | exact Below.refl _ _ | assumption | refine Below.drew ?_ | refine Below.alloc ?_ (by first | omega | (simp; omega) | (simp; done)) _ | refine Below.setCell ?_ (by first | omega | (simp; omega) | (simp; done)) _)) (hbwe.mono (by first | omega | (simp; omega) | (simp; done) | (have := (show Below w.heap.size w _ from by assumption).size; omega))); obtain ⟨hccwe, hfcwe⟩ := bcell hbwe; have hzwe := hbwe.size; try simp at hzwe; try (have hz0we : w.heap.size < we.heap.size := (by omega)); try (have hz1we : w.heap.size + 1 < we.heap.size := (by omega)); try (have hz2we : w.heap.size + 1 + 1 < we.heap.size := (by omega))))
  go_ret3
  exact ⟨by simp [spotV], (by repeat (first | exact Below.refl _ _ | assumption | refine Below.drew ?_ | refine Below.alloc ?_ (by first | omega | (simp; omega) | (simp; done)) _ | refine Below.setCell ?_ (by first | omega | (simp; omega) | (simp; done)) _))⟩

end Go.Proofs.YthigfjelgbdcfaaDoor
