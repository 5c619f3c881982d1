/- The contract of region's total, for every configuration that fits. -/
import Derived.Test.YthigfjelgbdcfaaDoorGRegD
import Derived.Test.YthigfjelgbdcfaaDoorGPlain
import Derived.Shelf.Abstract
import Derived.Shelf.RegionOpen

namespace Go.Proofs.YthigfjelgbdcfaaDoor
open Go.RowKit Go.Shelf

attribute [local go_sem] Oper.semAt_some

theorem blk_own {W W' : World} {row : Option Nat} {b : Nat} {c : Array Value} {t : TypeId} {f : Nat × Nat} (h : W.heap[b]? = some (.cells c t f)) (hg : W.grownBy W' row)
    (hr : ∀ r, row = some r → ∃ o : Obj, W.heap[r]? = some o ∧ o.isCells = false) : W'.heap[b]? = some (.cells c t f) := by
  refine (hg.block b (Array.getElem?_eq_some_iff.1 h).1 ?_).trans h
  intro e
  obtain ⟨o, ho, hc⟩ := hr b e.symm
  rw [h] at ho
  cases ho
  simp [Obj.isCells] at hc
theorem own_blk {β : Type} (b : Nat) (g : β → Array Value) (t : TypeId) (fz : Nat × Nat) : Own (fun (s : β) W => W.heap[b]? = some (.cells (g s) t fz)) :=
  fun _ _ _ _ hs hg hr => blk_own hs hg hr
theorem blk_put {W : World} {b D : Nat} {o o' : Obj} {c : Array Value} {t : TypeId} {f : Nat × Nat} (h : W.heap[b]? = some (.cells c t f)) (hD : W.heap[D]? = some o) (hc : o.isCells = false) : (W.putObj D o').heap[b]? = some (.cells c t f) :=
  blk_own h (grownBy_putObj' W D o') (fun r e => by cases e; exact ⟨_, hD, hc⟩)
theorem blk_alloc' {W : World} {b : Nat} {o o' : Obj} (h : W.heap[b]? = some o) : (W.alloc o').heap[b]? = some o := (Below.heap_alloc W _ b (Array.getElem?_eq_some_iff.1 h).1).trans h
theorem alloc_at (w : World) (o : Obj) {n : Nat} (h : n = w.heap.size) : (w.alloc o).heap[n]? = some o := h ▸ World.alloc_heap_new w o
theorem blk_set {W : World} {b i : Nat} {c : Array Value} {t : TypeId} {f : Nat × Nat} (h : W.heap[b]? = some (.cells c t f)) (v : Value) : (W.setCell ⟨b, i, none⟩ v).heap[b]? = some (.cells (c.setIfInBounds i v) t f) := by
  rw [setCell_heap, if_pos rfl, h]; rfl
theorem blk_far {W : World} {b b' i : Nat} {o : Obj} (h : W.heap[b]? = some o) (hne : b' ≠ b) (v : Value) : (W.setCell ⟨b', i, none⟩ v).heap[b]? = some o := by
  rw [setCell_heap, if_neg hne, h]
theorem blk_frozen {W : World} {b i : Nat} {c : Array Value} {t : TypeId} (h : W.heap[b]? = some (.cells c t (0, 0))) : W.frozen? ⟨b, i, none⟩ = false := by
  simp [World.frozen?, h]
theorem below_putD {n₀ : Nat} {w W : World} {D : Nat} {o o' : Obj} (h : Below n₀ w W) (_hD : W.heap[D]? = some o) (hn : n₀ ≤ D) (hn0 : n₀ ≤ W.heap.size) : Below n₀ w (W.putObj D o') :=
  h.trans ((Below.refl n₀ W).grown (grownBy_putObj' W D o') hn0 (fun k e => by cases e; exact hn))

/-- 'parts(c)': the iterator, over a box of its own -/
theorem rParts (k p c : Int) (w : World) : Calls Tryd.prog 54 #[conf k p c] w fun e w' => e = .returned (.func (.func 71) #[] #[.pointer (some ⟨w.heap.size, 0, none⟩)]) ∧ w.alloc (.cells #[.int .i64 k, .int .i64 p, .int .i64 c] 24) = w' := by
  have hmf : ∀ (fn : Fn) (first cap : Array Value) (w : World), (Instr.makeFunc fn first cap).run Tryd.prog w = .ok (.func fn first cap) w := fun _ _ _ _ => rfl
  go_enter Tryd.func54, Tryd.ntmps54
  go_wp2
  go_ret
  exact ⟨rfl, rfl⟩

set_option maxRecDepth 100000 in
set_option maxHeartbeats 2000000 in
theorem rSize_yes (k p c : Int) (w : World) (ho : Objs w) (h : Fit k p c) : Calls Tryd.prog 36 #[conf k p c] w fun e w' => e = .returned (.int .i64 (sizeN k p c)) ∧ Below w.heap.size w w' := by
  have hF := fitsB_yes h
  have HO := Lib.hid ho
  have HF := Lib.hid h
  clear ho h
  refine (callsIn_wide (n := 4)).1 ?_
  refine callsIn_of_wp_marks Tryd.func36 rfl trivial ?_ rfl
  simp only [Tryd.ntmps36, List.size_toArray, List.length_cons, List.length_nil, Nat.reduceAdd, Nat.reduceSub, Array.replicate_succ, Array.replicate_zero, List.push_toArray, List.append_toArray, List.nil_append, List.cons_append]
  gi_wp2_with (first | (refine ⟨trivial, ?_⟩; gi_at_call 41; refine (callsIn_wide.2 (rFits _ _ _ _)).mono ?_; rintro e wc ⟨rfl, hbc⟩; have hBc : Below w.heap.size w wc := Below.trans (by repeat (first | exact Below.refl _ _ | assumption | refine Below.drew ?_ | refine Below.alloc ?_ (by first | omega | (simp; omega) | (simp; done)) _ | refine Below.setCell ?_ (by first | omega | (simp; omega) | (simp; done)) _)) (hbc.mono (by simp; omega)); obtain ⟨hcc, hfc⟩ := bcell hbc; have hzc := hbc.size) | (refine ⟨trivial, ?_⟩; gi_at_call 54; refine (callsIn_wide.2 (rParts _ _ _ _)).mono ?_; rintro e wd ⟨rfl, rfl⟩))
  have h0 : wc.heap[w.heap.size]? = some (.cells #[.int .i64 k, .int .i64 p, .int .i64 c] 24 (0, 0)) := (hbc.block _ (by simp; omega)).trans (blk_alloc' (World.alloc_heap_new w _))
  have h1 : wc.heap[w.heap.size + 1]? = some (.cells #[.int .i64 0] 3 (0, 0)) := (hbc.block _ (by simp)).trans (by simpa using World.alloc_heap_new (w.alloc (.cells #[.int .i64 k, .int .i64 p, .int .i64 c] 24)) (.cells #[.int .i64 0] 3))
  simp only [World.size_alloc] at hzc
  clear hbc hcc hfc hF
  obtain ⟨W0, hW0⟩ : ∃ W0, wc.alloc (.cells #[.int .i64 k, .int .i64 p, .int .i64 c] 24) = W0 := ⟨_, rfl⟩
  have hsz : W0.heap.size = wc.heap.size + 1 := by rw [← hW0]; simp
  have hB0 : Below w.heap.size w W0 := by rw [← hW0]; exact hBc.alloc hBc.size _
  have hn0 : W0.heap[w.heap.size + 1]? = some (.cells #[.int .i64 0] 3 (0, 0)) := by rw [← hW0]; exact blk_alloc' h1
  have hbx : W0.heap[wc.heap.size]? = some (.cells #[.int .i64 k, .int .i64 p, .int .i64 c] 24 (0, 0)) := by rw [← hW0]; exact World.alloc_heap_new wc _
  rw [hW0]
  clear hW0 h0 h1 hBc
  refine wpIn_rangeFunc_ownH rfl (by omega) (gf := 71) (lb := #[.pointer (some ⟨wc.heap.size, 0, none⟩)]) rfl trivial (enters_of Tryd.func71 (by kernel_rfl) rfl)
    (parts_stops (fun i => i = w.heap.size + 1) k p c HF.out wc.heap.size W0 (HO.out.below hB0) hbx (by omega) (fun i hi => by omega) _ (by omega)) KeepW.trans (fun W l o o' _ hl hc _ => KeepW.put W l o o' hl hc) (Below.refl _ _) (fun _ => rfl)
    (fun pre W => W.heap[w.heap.size + 1]? = some (.cells #[.int .i64 (lastTo pre)] 3 (0, 0)) ∧ Below w.heap.size w W)
    (fun _ _ _ => False)
    (OwnFrom.and (Own.from (own_blk _ (fun pre => #[.int .i64 (lastTo pre)]) _ _) _) (ownFrom_below (Nat.le_refl _) (by omega)))
    (fun _ _ _ _ _ hs _ _ => hs)
    ⟨hn0, hB0⟩
    (fun x a' W => ∃ Bx, w.heap.size + 1 < Bx ∧ W.heap[Bx]? = some (.cells #[.int .i64 x.1, .int .i64 x.2.1, .int .i64 x.2.2.1, .int .i64 x.2.2.2] 96 (0, 0)) ∧
      a' = { tmps := #[conf k p c, .pointer (some ⟨w.heap.size, 0, none⟩), .pointer (some ⟨w.heap.size + 1, 0, none⟩), .pointer (some ⟨Bx, 0, none⟩), .agg #[.int .i64 k, .int .i64 p, .int .i64 c], .bool true, .bool false, .agg #[.int .i64 k, .int .i64 p, .int .i64 c], .func (.func 71) #[] #[.pointer (some ⟨wc.heap.size, 0, none⟩)], .agg #[.int .i64 x.1, .int .i64 x.2.1, .int .i64 x.2.2.1, .int .i64 x.2.2.2], undef, undef, undef], defers := [] })
    (fun x a' _ X Y row hs hg hr => by obtain ⟨Bx, h1, h2, h3⟩ := hs; exact ⟨Bx, h1, blk_own h2 hg (fun r e => (hr r e).2), h3⟩)
    ?assign ?body ?done ?stop
  case assign =>
    rintro l pre x W K ⟨hn1, hB1⟩ hK
    gi_wp2
    have hz1 := hB1.size
    have := (Array.getElem?_eq_some_iff.1 hn1).1
    exact hK _ _ ((KeepsOthers.alloc _ _).from _) (KeepW.of_below (blk_alloc W _)) ⟨blk_alloc' hn1, hB1.alloc hz1 _⟩ ⟨W.heap.size, by omega, World.alloc_heap_new W _, rfl⟩
  case body =>
    rintro l pre x a' W hl hr ⟨hn1, hB1⟩ ⟨Bx, hBx, bX, rfl⟩ hlt
    have cX := blk_cell bX (i := 3) (v := .int .i64 x.2.2.2) rfl
    have cN := blk_cell hn1 (i := 0) (v := .int .i64 (lastTo pre)) rfl
    have fN := blk_frozen hn1 (i := 0)
    gi_wp2
    refine ⟨(KeepsOthers.setCell _ _ _).from _, KeepW.set (S := fun i => i = w.heap.size + 1) (a := ⟨w.heap.size + 1, 0, none⟩) rfl _, ?_, hB1.setCell (p := ⟨w.heap.size + 1, 0, none⟩) (by simp) _⟩
    rw [lastTo_snoc]
    exact blk_set hn1 _
  case done =>
    rintro D ys W hD rfl ⟨hn1, hB1⟩ hK
    have cN := blk_cell hn1 (i := 0) (v := .int .i64 (lastTo (partsL k p c))) rfl
    have fN := blk_frozen hn1 (i := 0)
    gi_wp2
    have hK' := (KeepsOthers.setCell W ⟨w.heap.size + 1, 0, none⟩ (.int .i64 (lastTo (partsL k p c)))).same D _ hK rfl
    refine ⟨by simp, .inl ⟨_, _, rfl, run_takeDeferred hK', ?_⟩⟩
    have hn2 : (W.setCell ⟨w.heap.size + 1, 0, none⟩ (.int .i64 (lastTo (partsL k p c)))).heap[w.heap.size + 1]? = some (.cells #[.int .i64 (lastTo (partsL k p c))] 3 (0, 0)) := blk_set hn1 _
    have c5 := blk_cell (blk_put (o' := .deferred none) hn2 hK' rfl) (i := 0) (v := .int .i64 (lastTo (partsL k p c))) rfl
    refine ⟨.int .i64 (lastTo (partsL k p c)), ?_, by rw [lastTo_parts HF.out], below_putD (hB1.setCell (p := ⟨w.heap.size + 1, 0, none⟩) (by simp) _) hK' (by omega) (by have := hB1.size; simpa using this)⟩
    simp [results, Tryd.f36, go_sem, c5]
  case stop =>
    rintro D c' pre W hD _ h _
    exact h.elim

theorem rSize_no (k p c : Int) (w : World) (h : ¬ Fit k p c) : Calls Tryd.prog 36 #[conf k p c] w fun e w' => e = .returned (.int .i64 (sizeN k p c)) ∧ Below w.heap.size w w' := by
  rw [sizeN_no h]
  have hF := fitsB_no h
  clear h
  refine (callsIn_wide (n := 4)).1 ?_
  refine callsIn_of_wp_marks Tryd.func36 rfl trivial ?_ rfl
  simp only [Tryd.ntmps36, List.size_toArray, List.length_cons, List.length_nil, Nat.reduceAdd, Nat.reduceSub, Array.replicate_succ, Array.replicate_zero, List.push_toArray, List.append_toArray, List.nil_append, List.cons_append]
  gi_wp2_with (first | (refine ⟨trivial, ?_⟩; gi_at_call 41; refine (callsIn_wide.2 (rFits _ _ _ _)).mono ?_; rintro e wc ⟨rfl, hbc⟩; have hBc : Below w.heap.size w wc := Below.trans (by repeat (first | exact Below.refl _ _ | assumption | refine Below.drew ?_ | refine Below.alloc ?_ (by first | omega | (simp; omega) | (simp; done)) _ | refine Below.setCell ?_ (by first | omega | (simp; omega) | (simp; done)) _)) (hbc.mono (by simp; omega)); have h1 : wc.heap[w.heap.size + 1]? = some (.cells #[.int .i64 0] 3 (0, 0)) := (hbc.block _ (by simp)).trans (by simpa using World.alloc_heap_new (w.alloc (.cells #[.int .i64 k, .int .i64 p, .int .i64 c] 24)) (.cells #[.int .i64 0] 3)); have c1 := blk_cell h1 (i := 0) (v := .int .i64 0) rfl; have f1 := blk_frozen h1 (i := 0); clear hbc))
  have c5 := blk_cell (blk_set (i := 0) h1 (.int .i64 0)) (i := 0) (v := .int .i64 0) rfl
  refine ⟨.int .i64 0, ?_, rfl, (by repeat (first | exact Below.refl _ _ | assumption | refine Below.drew ?_ | refine Below.alloc ?_ (by first | omega | (simp; omega) | (simp; done)) _ | refine Below.setCell ?_ (by first | omega | (simp; omega) | (simp; done)) _))⟩
  simp [results, Tryd.f36, go_sem, c5]

theorem rSize (k p c : Int) (w : World) (ho : Objs w) : Calls Tryd.prog 36 #[conf k p c] w fun e w' => e = .returned (.int .i64 (sizeN k p c)) ∧ Below w.heap.size w w' := by
  by_cases h : Fit k p c
  · exact rSize_yes k p c w ho h
  · exact rSize_no k p c w h

end Go.Proofs.YthigfjelgbdcfaaDoor
