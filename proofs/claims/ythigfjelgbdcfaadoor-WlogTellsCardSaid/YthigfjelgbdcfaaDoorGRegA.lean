/- The contracts of the region package's Fits, Home, Size and the like, whatever the configuration. -/
import Derived.Test.YthigfjelgbdcfaaDoorRows
import Derived.Test.YthigfjelgbdcfaaDoorGBase
import Derived.Test.YthigfjelgbdcfaaDoorGPlain

namespace Go.Proofs.YthigfjelgbdcfaaDoor
open Go.RowKit

abbrev conf (k p c : Int) : Value := .agg #[.int .i64 k, .int .i64 p, .int .i64 c]

/-- the program's table of objects, as it lies in memory -/
def objTab : List Int := [0, 0, 1, 0, 1, 2, 1, 4, 2, 4, 9, 1]
def Objs (w : World) : Prop := 0 < w.heap.size ∧ ∀ j : Nat, j < 12 → w.cell? ⟨0, j, none⟩ = some (.int .i64 (objTab.getD j 0))
theorem Objs.below {w w' : World} (h : Objs w) (hb : Below w.heap.size w w') : Objs w' :=
  ⟨Nat.lt_of_lt_of_le h.1 hb.size, fun j hj => (hb.cell (p := ⟨0, j, none⟩) h.1).trans (h.2 j hj)⟩

theorem Objs.regrown {W : World} (h : Objs W) (d : Nat) (os : Array Obj) : Objs (Go.Sort.grow (redrawn W d) os) := h.below (below_regrown W d os)

theorem rFits (k p c : Int) (w : World) : Calls Tryd.prog 41 #[conf k p c] w fun e w' => e = .returned (.bool (fitsB k p c)) ∧ Below w.heap.size w w' := by
  go_enter Tryd.func41, Tryd.ntmps41
  go_wp2
  all_goals (go_ret; refine ⟨ret_bool ?_, (by repeat (first | exact Below.refl _ _ | assumption | refine Below.drew ?_ | refine Below.alloc ?_ (by first | omega | (simp; omega) | (simp; done)) _ | refine Below.setCell ?_ (by first | omega | (simp; omega) | (simp; done)) _))⟩)
  all_goals first | (refine (fitsB_no ?_).symm; unfold Fit; omega) | (by_cases hc : c ≤ 256; (rw [fitsB_yes (by unfold Fit; omega), decide_eq_true hc]); (rw [fitsB_no (by unfold Fit; omega), decide_eq_false hc]))

set_option maxHeartbeats 400000 in
theorem rHome_yes (k p c : Int) (w : World) (ho : Objs w) (h : Fit k p c) : Calls Tryd.prog 72 #[conf k p c] w fun e w' => e = .returned (.int .i64 (homeF k c)) ∧ Below w.heap.size w w' := by
  have hF := fitsB_yes h
  obtain ⟨hz0, ho⟩ := ho
  have h' := h
  unfold Fit at h'
  obtain ⟨k1, k2, p1, p2, c1, c2⟩ := h'
  obtain hk | hk | hk | hk | hk : k = 1 ∨ k = 2 ∨ k = 3 ∨ k = 4 ∨ k = 5 := by omega
  · subst hk
    have o1 := ho 2 (by omega)
    have o2 := ho 3 (by omega)
    simp only [objTab, List.getD_cons_succ, List.getD_cons_zero] at o1 o2
    clear ho h
    go_enter Tryd.func72, Tryd.ntmps72
    go_wp2_with (first | (go_at_call 41; refine (rFits _ _ _ _).mono ?_; rintro e wc ⟨rfl, hbc⟩; have hBc : Below w.heap.size w wc := Below.trans (by repeat (first | exact Below.refl _ _ | assumption | refine Below.drew ?_ | refine Below.alloc ?_ (by first | omega | (simp; omega) | (simp; done)) _ | refine Below.setCell ?_ (by first | omega | (simp; omega) | (simp; done)) _)) (hbc.mono (by first | omega | (simp; omega) | (simp; done))); obtain ⟨hcc, hfc⟩ := bcell hbc; have hzc := hbc.size; try simp at hzc; try (have hz0' : w.heap.size < wc.heap.size := (by omega)); try (have hz1' : w.heap.size + 1 < wc.heap.size := (by omega)); try (have hz2' : w.heap.size + 1 + 1 < wc.heap.size := (by omega))))
    go_ret
    exact ⟨ret_int (by simp [homeF]), (by repeat (first | exact Below.refl _ _ | assumption | refine Below.drew ?_ | refine Below.alloc ?_ (by first | omega | (simp; omega) | (simp; done)) _ | refine Below.setCell ?_ (by first | omega | (simp; omega) | (simp; done)) _))⟩
  · subst hk
    have o1 := ho 4 (by omega)
    have o2 := ho 5 (by omega)
    simp only [objTab, List.getD_cons_succ, List.getD_cons_zero] at o1 o2
    clear ho h
    go_enter Tryd.func72, Tryd.ntmps72
    go_wp2_with (first | (go_at_call 41; refine (rFits _ _ _ _).mono ?_; rintro e wc ⟨rfl, hbc⟩; have hBc : Below w.heap.size w wc := Below.trans (by repeat (first | exact Below.refl _ _ | assumption | refine Below.drew ?_ | refine Below.alloc ?_ (by first | omega | (simp; omega) | (simp; done)) _ | refine Below.setCell ?_ (by first | omega | (simp; omega) | (simp; done)) _)) (hbc.mono (by first | omega | (simp; omega) | (simp; done))); obtain ⟨hcc, hfc⟩ := bcell hbc; have hzc := hbc.size; try simp at hzc; try (have hz0' : w.heap.size < wc.heap.size := (by omega)); try (have hz1' : w.heap.size + 1 < wc.heap.size := (by omega)); try (have hz2' : w.heap.size + 1 + 1 < wc.heap.size := (by omega))))
    go_ret
    exact ⟨ret_int (by simp [homeF]), (by repeat (first | exact Below.refl _ _ | assumption | refine Below.drew ?_ | refine Below.alloc ?_ (by first | omega | (simp; omega) | (simp; done)) _ | refine Below.setCell ?_ (by first | omega | (simp; omega) | (simp; done)) _))⟩
  · subst hk
    have o1 := ho 6 (by omega)
    have o2 := ho 7 (by omega)
    simp only [objTab, List.getD_cons_succ, List.getD_cons_zero] at o1 o2
    clear ho h
    go_enter Tryd.func72, Tryd.ntmps72
    go_wp2_with (first | (go_at_call 41; refine (rFits _ _ _ _).mono ?_; rintro e wc ⟨rfl, hbc⟩; have hBc : Below w.heap.size w wc := Below.trans (by repeat (first | exact Below.refl _ _ | assumption | refine Below.drew ?_ | refine Below.alloc ?_ (by first | omega | (simp; omega) | (simp; done)) _ | refine Below.setCell ?_ (by first | omega | (simp; omega) | (simp; done)) _)) (hbc.mono (by first | omega | (simp; omega) | (simp; done))); obtain ⟨hcc, hfc⟩ := bcell hbc; have hzc := hbc.size; try simp at hzc; try (have hz0' : w.heap.size < wc.heap.size := (by omega)); try (have hz1' : w.heap.size + 1 < wc.heap.size := (by omega)); try (have hz2' : w.heap.size + 1 + 1 < wc.heap.size := (by omega))))
    go_ret
    exact ⟨ret_int (by simp [homeF]), (by repeat (first | exact Below.refl _ _ | assumption | refine Below.drew ?_ | refine Below.alloc ?_ (by first | omega | (simp; omega) | (simp; done)) _ | refine Below.setCell ?_ (by first | omega | (simp; omega) | (simp; done)) _))⟩
  · subst hk
    have o1 := ho 8 (by omega)
    have o2 := ho 9 (by omega)
    simp only [objTab, List.getD_cons_succ, List.getD_cons_zero] at o1 o2
    clear ho h
    go_enter Tryd.func72, Tryd.ntmps72
    go_wp2_with (first | (go_at_call 41; refine (rFits _ _ _ _).mono ?_; rintro e wc ⟨rfl, hbc⟩; have hBc : Below w.heap.size w wc := Below.trans (by repeat (first | exact Below.refl _ _ | assumption | refine Below.drew ?_ | refine Below.alloc ?_ (by first | omega | (simp; omega) | (simp; done)) _ | refine Below.setCell ?_ (by first | omega | (simp; omega) | (simp; done)) _)) (hbc.mono (by first | omega | (simp; omega) | (simp; done))); obtain ⟨hcc, hfc⟩ := bcell hbc; have hzc := hbc.size; try simp at hzc; try (have hz0' : w.heap.size < wc.heap.size := (by omega)); try (have hz1' : w.heap.size + 1 < wc.heap.size := (by omega)); try (have hz2' : w.heap.size + 1 + 1 < wc.heap.size := (by omega))))
    go_ret
    exact ⟨ret_int (by simp [homeF]), (by repeat (first | exact Below.refl _ _ | assumption | refine Below.drew ?_ | refine Below.alloc ?_ (by first | omega | (simp; omega) | (simp; done)) _ | refine Below.setCell ?_ (by first | omega | (simp; omega) | (simp; done)) _))⟩
  · subst hk
    have o1 := ho 10 (by omega)
    have o2 := ho 11 (by omega)
    simp only [objTab, List.getD_cons_succ, List.getD_cons_zero] at o1 o2
    clear ho h
    go_enter Tryd.func72, Tryd.ntmps72
    go_wp2_with (first | (go_at_call 41; refine (rFits _ _ _ _).mono ?_; rintro e wc ⟨rfl, hbc⟩; have hBc : Below w.heap.size w wc := Below.trans (by repeat (first | exact Below.refl _ _ | assumption | refine Below.drew ?_ | refine Below.alloc ?_ (by first | omega | (simp; omega) | (simp; done)) _ | refine Below.setCell ?_ (by first | omega | (simp; omega) | (simp; done)) _)) (hbc.mono (by first | omega | (simp; omega) | (simp; done))); obtain ⟨hcc, hfc⟩ := bcell hbc; have hzc := hbc.size; try simp at hzc; try (have hz0' : w.heap.size < wc.heap.size := (by omega)); try (have hz1' : w.heap.size + 1 < wc.heap.size := (by omega)); try (have hz2' : w.heap.size + 1 + 1 < wc.heap.size := (by omega))))
    go_ret
    exact ⟨ret_int (by simp [homeF]), (by repeat (first | exact Below.refl _ _ | assumption | refine Below.drew ?_ | refine Below.alloc ?_ (by first | omega | (simp; omega) | (simp; done)) _ | refine Below.setCell ?_ (by first | omega | (simp; omega) | (simp; done)) _))⟩

/-- 'writes', where the configuration fits -/
theorem rWrites (k p c : Int) (w : World) (ho : Objs w) (h : Fit k p c) : Calls Tryd.prog 60 #[conf k p c] w fun e w' => e = .returned (.int .i64 (homeF k c + 2 * p)) ∧ Below w.heap.size w w' := by
  have hb := homeF_bd h
  have HO := Lib.hid (ho.below (blk_alloc w (.cells #[.int .i64 k, .int .i64 p, .int .i64 c] 24)))
  have HH := Lib.hid h
  unfold Fit at h
  obtain ⟨k1, k2, p1, p2, c1, c2⟩ := h
  clear ho
  go_enter Tryd.func60, Tryd.ntmps60
  go_wp2
  have hrg := regrown_cell (w.alloc (.cells #[.int .i64 k, .int .i64 p, .int .i64 c] 24))
  refine wp_region_quiet_below (by kernel_rfl) (by kernel_rfl) ?_
  repeat (quiet_step (exact Calls.regrown_of (rHome_yes _ _ _ _ (HO.out.regrown _ _) HH.out)))
  refine wpQuiet_nil ?_; intro wq hwq; obtain ⟨pq, hpq⟩ := hwq
  have hB : Below w.heap.size w wq := Below.trans (blk_alloc w _) ((hpq ▸ below_regrown _ _ _ : Below _ (w.alloc (.cells #[.int .i64 k, .int .i64 p, .int .i64 c] 24)) wq).mono (by simp))
  clear hrg hpq
  go_wp2
  go_ret
  exact ⟨ret_int (by show IntKind.i64.wrap (homeF k c + IntKind.i64.wrap (2 * p)) = homeF k c + 2 * p; rw [w64 (x := 2 * p) (by omega) (by omega), w64 (by omega) (by omega)]), hB⟩

theorem rHome (k p c : Int) (w : World) (ho : Objs w) : Calls Tryd.prog 72 #[conf k p c] w fun e w' => e = .returned (.int .i64 (homeN k p c)) ∧ Below w.heap.size w w' := by
  by_cases h : Fit k p c
  · rw [homeN_yes h]; exact rHome_yes k p c w ho h
  · rw [homeN_no h]
    have hF := fitsB_no h
    clear h ho
    go_enter Tryd.func72, Tryd.ntmps72
    go_wp2_with (first | (go_at_call 41; refine (rFits _ _ _ _).mono ?_; rintro e wc ⟨rfl, hbc⟩; have hBc : Below w.heap.size w wc := Below.trans (by repeat (first | exact Below.refl _ _ | assumption | refine Below.drew ?_ | refine Below.alloc ?_ (by first | omega | (simp; omega) | (simp; done)) _ | refine Below.setCell ?_ (by first | omega | (simp; omega) | (simp; done)) _)) (hbc.mono (by first | omega | (simp; omega) | (simp; done))); obtain ⟨hcc, hfc⟩ := bcell hbc; have hzc := hbc.size; try simp at hzc; try (have hz0' : w.heap.size < wc.heap.size := (by omega)); try (have hz1' : w.heap.size + 1 < wc.heap.size := (by omega)); try (have hz2' : w.heap.size + 1 + 1 < wc.heap.size := (by omega))))
    go_ret
    exact ⟨rfl, (by repeat (first | exact Below.refl _ _ | assumption | refine Below.drew ?_ | refine Below.alloc ?_ (by first | omega | (simp; omega) | (simp; done)) _ | refine Below.setCell ?_ (by first | omega | (simp; omega) | (simp; done)) _))⟩

theorem rLogSize (k p c : Int) (w : World) (ho : Objs w) : Calls Tryd.prog 43 #[conf k p c] w fun e w' => e = .returned (.int .i64 (logN k p c)) ∧ Below w.heap.size w w' := by
  have HO := Lib.hid ho
  clear ho
  by_cases h : Fit k p c
  · rw [logN_yes h]
    have hF := fitsB_yes h
    have hb := homeF_bd h
    have HH := Lib.hid h
    unfold Fit at h
    go_enter Tryd.func43, Tryd.ntmps43
    go_wp2_with (first | (go_at_call 41; refine (rFits _ _ _ _).mono ?_; rintro e wc ⟨rfl, hbc⟩; have hBc : Below w.heap.size w wc := Below.trans (by repeat (first | exact Below.refl _ _ | assumption | refine Below.drew ?_ | refine Below.alloc ?_ (by first | omega | (simp; omega) | (simp; done)) _ | refine Below.setCell ?_ (by first | omega | (simp; omega) | (simp; done)) _)) (hbc.mono (by first | omega | (simp; omega) | (simp; done))); obtain ⟨hcc, hfc⟩ := bcell hbc; have hzc := hbc.size; try simp at hzc; try (have hz0' : w.heap.size < wc.heap.size := (by omega)); try (have hz1' : w.heap.size + 1 < wc.heap.size := (by omega)); try (have hz2' : w.heap.size + 1 + 1 < wc.heap.size := (by omega))) | (go_at_call 60; refine (rWrites _ _ _ _ (HO.out.below (by repeat (first | exact Below.refl _ _ | assumption | refine Below.drew ?_ | refine Below.alloc ?_ (by first | omega | (simp; omega) | (simp; done)) _ | refine Below.setCell ?_ (by first | omega | (simp; omega) | (simp; done)) _))) HH.out).mono ?_; rintro e wc ⟨rfl, hbc⟩; have hBc : Below w.heap.size w wc := Below.trans (by repeat (first | exact Below.refl _ _ | assumption | refine Below.drew ?_ | refine Below.alloc ?_ (by first | omega | (simp; omega) | (simp; done)) _ | refine Below.setCell ?_ (by first | omega | (simp; omega) | (simp; done)) _)) (hbc.mono (by first | omega | (simp; omega) | (simp; done))); obtain ⟨hcc, hfc⟩ := bcell hbc; have hzc := hbc.size; try simp at hzc; try (have hz0' : w.heap.size < wc.heap.size := (by omega)); try (have hz1' : w.heap.size + 1 < wc.heap.size := (by omega)); try (have hz2' : w.heap.size + 1 + 1 < wc.heap.size := (by omega))))
    go_ret
    exact ⟨rfl, (by repeat (first | exact Below.refl _ _ | assumption | refine Below.drew ?_ | refine Below.alloc ?_ (by first | omega | (simp; omega) | (simp; done)) _ | refine Below.setCell ?_ (by first | omega | (simp; omega) | (simp; done)) _))⟩
  · rw [logN_no h]
    have hF := fitsB_no h
    clear h
    go_enter Tryd.func43, Tryd.ntmps43
    go_wp2_with (first | (go_at_call 41; refine (rFits _ _ _ _).mono ?_; rintro e wc ⟨rfl, hbc⟩; have hBc : Below w.heap.size w wc := Below.trans (by repeat (first | exact Below.refl _ _ | assumption | refine Below.drew ?_ | refine Below.alloc ?_ (by first | omega | (simp; omega) | (simp; done)) _ | refine Below.setCell ?_ (by first | omega | (simp; omega) | (simp; done)) _)) (hbc.mono (by first | omega | (simp; omega) | (simp; done))); obtain ⟨hcc, hfc⟩ := bcell hbc; have hzc := hbc.size; try simp at hzc; try (have hz0' : w.heap.size < wc.heap.size := (by omega)); try (have hz1' : w.heap.size + 1 < wc.heap.size := (by omega)); try (have hz2' : w.heap.size + 1 + 1 < wc.heap.size := (by omega))))
    go_ret
    exact ⟨rfl, (by repeat (first | exact Below.refl _ _ | assumption | refine Below.drew ?_ | refine Below.alloc ?_ (by first | omega | (simp; omega) | (simp; done)) _ | refine Below.setCell ?_ (by first | omega | (simp; omega) | (simp; done)) _))⟩

/-- 'most', where the configuration fits -/
theorem rMost (k p c : Int) (w : World) (ho : Objs w) (h : Fit k p c) : Calls Tryd.prog 44 #[conf k p c] w fun e w' => e = .returned (.int .i64 (homeF k c + 2 * p)) ∧ Below w.heap.size w w' := by
  have HO := Lib.hid ho
  clear ho
  have hb := homeF_bd h
  have HH := Lib.hid (logN_yes h)
  unfold Fit at h
  have e1 : (1 + 2 * (homeF k c + 2 * p) - 1) / 2 = homeF k c + 2 * p := by omega
  go_enter Tryd.func44, Tryd.ntmps44
  go_wp2_with (first | (go_at_call 43; refine ((HH.out ▸ rLogSize _ _ _ _ (HO.out.below (by repeat (first | exact Below.refl _ _ | assumption | refine Below.drew ?_ | refine Below.alloc ?_ (by first | omega | (simp; omega) | (simp; done)) _ | refine Below.setCell ?_ (by first | omega | (simp; omega) | (simp; done)) _))))).mono ?_; rintro e wc ⟨rfl, hbc⟩; have hBc : Below w.heap.size w wc := Below.trans (by repeat (first | exact Below.refl _ _ | assumption | refine Below.drew ?_ | refine Below.alloc ?_ (by first | omega | (simp; omega) | (simp; done)) _ | refine Below.setCell ?_ (by first | omega | (simp; omega) | (simp; done)) _)) (hbc.mono (by first | omega | (simp; omega) | (simp; done))); obtain ⟨hcc, hfc⟩ := bcell hbc; have hzc := hbc.size; try simp at hzc; try (have hz0' : w.heap.size < wc.heap.size := (by omega)); try (have hz1' : w.heap.size + 1 < wc.heap.size := (by omega)); try (have hz2' : w.heap.size + 1 + 1 < wc.heap.size := (by omega))))
  go_ret
  exact ⟨ret_int e1, (by repeat (first | exact Below.refl _ _ | assumption | refine Below.drew ?_ | refine Below.alloc ?_ (by first | omega | (simp; omega) | (simp; done)) _ | refine Below.setCell ?_ (by first | omega | (simp; omega) | (simp; done)) _))⟩

end Go.Proofs.YthigfjelgbdcfaaDoor

namespace Go.Proofs.YthigfjelgbdcfaaDoor
open Go.RowKit

def inB (n a b : Int) : Bool := decide (a ≤ n ∧ n ≤ b)
theorem inB_yes {n a b : Int} (h : a ≤ n ∧ n ≤ b) : inB n a b = true := decide_eq_true h
theorem inB_no {n a b : Int} (h : ¬ (a ≤ n ∧ n ≤ b)) : inB n a b = false := decide_eq_false h

theorem fIn (n a b : Int) (w : World) : Calls Tryd.prog 57 #[.int .i64 n, .int .i64 a, .int .i64 b] w fun e w' => e = .returned (.bool (inB n a b)) ∧ w = w' := by
  by_cases h : a ≤ n
  · by_cases h2 : n ≤ b
    · go_enter Tryd.func57, Tryd.ntmps57
      go_wp2
      go_ret
      exact ⟨ret_bool (inB_yes ⟨h, h2⟩).symm, rfl⟩
    · go_enter Tryd.func57, Tryd.ntmps57
      go_wp2
      go_ret
      refine ⟨ret_bool ?_, rfl⟩
      rw [inB_no (by omega)]
  · go_enter Tryd.func57, Tryd.ntmps57
    go_wp2
    go_ret
    exact ⟨ret_bool (inB_no (by omega)).symm, rfl⟩

theorem fFits (k p c : Int) (w : World) : Calls Tryd.prog 33 #[conf k p c] w fun e w' => e = .returned (.bool (fitsB k p c)) ∧ Below w.heap.size w w' := by
  by_cases h1 : 1 ≤ k ∧ k ≤ 5
  · have i1 := inB_yes h1
    by_cases h2 : 1 ≤ p ∧ p ≤ 16
    · have i2 := inB_yes h2
      by_cases h3 : 1 ≤ c ∧ c ≤ 256
      · have i3 := inB_yes h3
        have hF := Lib.hid (fitsB_yes (k := k) (p := p) (c := c) (by unfold Fit; omega))
        go_enter Tryd.func33, Tryd.ntmps33
        go_wp2_with (go_at_call 57; refine (fIn _ _ _ _).mono ?_; rintro e wc ⟨rfl, rfl⟩)
        go_ret
        exact ⟨ret_bool hF.out.symm, (by repeat (first | exact Below.refl _ _ | assumption | refine Below.drew ?_ | refine Below.alloc ?_ (by first | omega | (simp; omega) | (simp; done)) _ | refine Below.setCell ?_ (by first | omega | (simp; omega) | (simp; done)) _))⟩
      · have i3 := inB_no h3
        have hF := Lib.hid (fitsB_no (k := k) (p := p) (c := c) (by unfold Fit; omega))
        go_enter Tryd.func33, Tryd.ntmps33
        go_wp2_with (go_at_call 57; refine (fIn _ _ _ _).mono ?_; rintro e wc ⟨rfl, rfl⟩)
        go_ret
        exact ⟨ret_bool hF.out.symm, (by repeat (first | exact Below.refl _ _ | assumption | refine Below.drew ?_ | refine Below.alloc ?_ (by first | omega | (simp; omega) | (simp; done)) _ | refine Below.setCell ?_ (by first | omega | (simp; omega) | (simp; done)) _))⟩
    · have i2 := inB_no h2
      have hF := Lib.hid (fitsB_no (k := k) (p := p) (c := c) (by unfold Fit; omega))
      go_enter Tryd.func33, Tryd.ntmps33
      go_wp2_with (go_at_call 57; refine (fIn _ _ _ _).mono ?_; rintro e wc ⟨rfl, rfl⟩)
      go_ret
      exact ⟨ret_bool hF.out.symm, (by repeat (first | exact Below.refl _ _ | assumption | refine Below.drew ?_ | refine Below.alloc ?_ (by first | omega | (simp; omega) | (simp; done)) _ | refine Below.setCell ?_ (by first | omega | (simp; omega) | (simp; done)) _))⟩
  · have i1 := inB_no h1
    have hF := Lib.hid (fitsB_no (k := k) (p := p) (c := c) (by unfold Fit; omega))
    go_enter Tryd.func33, Tryd.ntmps33
    go_wp2_with (go_at_call 57; refine (fIn _ _ _ _).mono ?_; rintro e wc ⟨rfl, rfl⟩)
    go_ret
    exact ⟨ret_bool hF.out.symm, (by repeat (first | exact Below.refl _ _ | assumption | refine Below.drew ?_ | refine Below.alloc ?_ (by first | omega | (simp; omega) | (simp; done)) _ | refine Below.setCell ?_ (by first | omega | (simp; omega) | (simp; done)) _))⟩

theorem fHome (k p c : Int) (w : World) : Calls Tryd.prog 32 #[conf k p c] w fun e w' => e = .returned (.int .i64 (homeN k p c)) ∧ Below w.heap.size w w' := by
  by_cases h : Fit k p c
  · have hF := fitsB_yes h
    rw [homeN_yes h]
    unfold Fit at h
    obtain ⟨k1, k2, p1, p2, c1, c2⟩ := h
    obtain hk | hk | hk | hk | hk : k = 1 ∨ k = 2 ∨ k = 3 ∨ k = 4 ∨ k = 5 := by omega
    all_goals
      subst hk
      go_enter Tryd.func32, Tryd.ntmps32
      go_wp2_with (first | (go_at_call 33; refine (fFits _ _ _ _).mono ?_; rintro e wc ⟨rfl, hbc⟩; have hBc : Below w.heap.size w wc := Below.trans (by repeat (first | exact Below.refl _ _ | assumption | refine Below.drew ?_ | refine Below.alloc ?_ (by first | omega | (simp; omega) | (simp; done)) _ | refine Below.setCell ?_ (by first | omega | (simp; omega) | (simp; done)) _)) (hbc.mono (by first | omega | (simp; omega) | (simp; done))); obtain ⟨hcc, hfc⟩ := bcell hbc; have hzc := hbc.size; try simp at hzc; try (have hz0' : w.heap.size < wc.heap.size := (by omega)); try (have hz1' : w.heap.size + 1 < wc.heap.size := (by omega)); try (have hz2' : w.heap.size + 1 + 1 < wc.heap.size := (by omega))))
      go_ret
      exact ⟨ret_int (by simp [homeF]; try omega), (by repeat (first | exact Below.refl _ _ | assumption | refine Below.drew ?_ | refine Below.alloc ?_ (by first | omega | (simp; omega) | (simp; done)) _ | refine Below.setCell ?_ (by first | omega | (simp; omega) | (simp; done)) _))⟩
  · have hF := fitsB_no h
    rw [homeN_no h]
    clear h
    go_enter Tryd.func32, Tryd.ntmps32
    go_wp2_with (first | (go_at_call 33; refine (fFits _ _ _ _).mono ?_; rintro e wc ⟨rfl, hbc⟩; have hBc : Below w.heap.size w wc := Below.trans (by repeat (first | exact Below.refl _ _ | assumption | refine Below.drew ?_ | refine Below.alloc ?_ (by first | omega | (simp; omega) | (simp; done)) _ | refine Below.setCell ?_ (by first | omega | (simp; omega) | (simp; done)) _)) (hbc.mono (by first | omega | (simp; omega) | (simp; done))); obtain ⟨hcc, hfc⟩ := bcell hbc; have hzc := hbc.size; try simp at hzc; try (have hz0' : w.heap.size < wc.heap.size := (by omega)); try (have hz1' : w.heap.size + 1 < wc.heap.size := (by omega)); try (have hz2' : w.heap.size + 1 + 1 < wc.heap.size := (by omega))))
    go_ret
    exact ⟨rfl, (by repeat (first | exact Below.refl _ _ | assumption | refine Below.drew ?_ | refine Below.alloc ?_ (by first | omega | (simp; omega) | (simp; done)) _ | refine Below.setCell ?_ (by first | omega | (simp; omega) | (simp; done)) _))⟩

theorem fMost (k p c : Int) (w : World) (h : Fit k p c) : Calls Tryd.prog 34 #[conf k p c] w fun e w' => e = .returned (.int .i64 (homeF k c + 2 * p)) ∧ Below w.heap.size w w' := by
  have hb := homeF_bd h
  have HH := Lib.hid (homeN_yes h)
  unfold Fit at h
  obtain ⟨k1, k2, p1, p2, c1, c2⟩ := h
  go_enter Tryd.func34, Tryd.ntmps34
  go_wp2
  have hrg := regrown_cell (w.alloc (.cells #[.int .i64 k, .int .i64 p, .int .i64 c] 24))
  refine wp_region_quiet_below (by kernel_rfl) (by kernel_rfl) ?_
  repeat (quiet_step (exact Calls.regrown_of (HH.out ▸ fHome _ _ _ _)))
  refine wpQuiet_nil ?_; intro wq hwq; obtain ⟨pq, hpq⟩ := hwq
  have hB : Below w.heap.size w wq := Below.trans (blk_alloc w _) ((hpq ▸ below_regrown _ _ _ : Below _ (w.alloc (.cells #[.int .i64 k, .int .i64 p, .int .i64 c] 24)) wq).mono (by simp))
  clear hrg hpq
  go_wp2
  go_ret
  exact ⟨ret_int (by show IntKind.i64.wrap (homeF k c + IntKind.i64.wrap (2 * p)) = homeF k c + 2 * p; rw [w64 (x := 2 * p) (by omega) (by omega), w64 (by omega) (by omega)]), hB⟩

theorem fLogSize (k p c : Int) (w : World) : Calls Tryd.prog 35 #[conf k p c] w fun e w' => e = .returned (.int .i64 (logN k p c)) ∧ Below w.heap.size w w' := by
  by_cases h : Fit k p c
  · rw [logN_yes h]
    have hF := fitsB_yes h
    have hb := homeF_bd h
    have HH := Lib.hid (homeN_yes h)
    unfold Fit at h
    obtain ⟨k1, k2, p1, p2, c1, c2⟩ := h
    go_enter Tryd.func35, Tryd.ntmps35
    go_wp2_with (first | (go_at_call 33; refine (fFits _ _ _ _).mono ?_; rintro e wc ⟨rfl, hbc⟩; have hBc : Below w.heap.size w wc := Below.trans (by repeat (first | exact Below.refl _ _ | assumption | refine Below.drew ?_ | refine Below.alloc ?_ (by first | omega | (simp; omega) | (simp; done)) _ | refine Below.setCell ?_ (by first | omega | (simp; omega) | (simp; done)) _)) (hbc.mono (by first | omega | (simp; omega) | (simp; done))); obtain ⟨hcc, hfc⟩ := bcell hbc; have hzc := hbc.size; try simp at hzc; try (have hz0' : w.heap.size < wc.heap.size := (by omega)); try (have hz1' : w.heap.size + 1 < wc.heap.size := (by omega)); try (have hz2' : w.heap.size + 1 + 1 < wc.heap.size := (by omega))))
    have hbx : ∀ o, o < 3 → wc.cell? ⟨w.heap.size, o, none⟩ = (w.alloc (.cells #[.int .i64 k, .int .i64 p, .int .i64 c] 24)).cell? ⟨w.heap.size, o, none⟩ := fun o _ => hcc _ _ (by simp)
    have hrg := regrown_cell wc
    refine wp_region_quiet_below (by kernel_rfl) (by kernel_rfl) ?_
    repeat (quiet_step (exact Calls.regrown_of (HH.out ▸ fHome _ _ _ _)))
    refine wpQuiet_nil ?_; intro wq hwq; obtain ⟨pq, hpq⟩ := hwq
    have hB : Below w.heap.size w wq := Below.trans hBc ((hpq ▸ below_regrown _ _ _ : Below _ wc wq).mono (by omega))
    clear hrg hpq
    go_wp2
    go_ret
    refine ⟨ret_int ?_, hB⟩
    show IntKind.i64.wrap (1 + IntKind.i64.wrap (2 * IntKind.i64.wrap (homeF k c + IntKind.i64.wrap (2 * p)))) = _
    rw [w64 (x := 2 * p) (by omega) (by omega), w64 (x := homeF k c + 2 * p) (by omega) (by omega), w64 (x := 2 * (homeF k c + 2 * p)) (by omega) (by omega), w64 (by omega) (by omega)]
  · rw [logN_no h]
    have hF := fitsB_no h
    clear h
    go_enter Tryd.func35, Tryd.ntmps35
    go_wp2_with (first | (go_at_call 33; refine (fFits _ _ _ _).mono ?_; rintro e wc ⟨rfl, hbc⟩; have hBc : Below w.heap.size w wc := Below.trans (by repeat (first | exact Below.refl _ _ | assumption | refine Below.drew ?_ | refine Below.alloc ?_ (by first | omega | (simp; omega) | (simp; done)) _ | refine Below.setCell ?_ (by first | omega | (simp; omega) | (simp; done)) _)) (hbc.mono (by first | omega | (simp; omega) | (simp; done))); obtain ⟨hcc, hfc⟩ := bcell hbc; have hzc := hbc.size; try simp at hzc; try (have hz0' : w.heap.size < wc.heap.size := (by omega)); try (have hz1' : w.heap.size + 1 < wc.heap.size := (by omega)); try (have hz2' : w.heap.size + 1 + 1 < wc.heap.size := (by omega))))
    go_ret
    exact ⟨rfl, (by repeat (first | exact Below.refl _ _ | assumption | refine Below.drew ?_ | refine Below.alloc ?_ (by first | omega | (simp; omega) | (simp; done)) _ | refine Below.setCell ?_ (by first | omega | (simp; omega) | (simp; done)) _))⟩

theorem fSize (k p c : Int) (w : World) : Calls Tryd.prog 29 #[conf k p c] w fun e w' => e = .returned (.int .i64 (sizeN k p c)) ∧ Below w.heap.size w w' := by
  by_cases h : Fit k p c
  · rw [sizeN_yes h]
    have hF := fitsB_yes h
    have hb := homeF_bd h
    have HH := Lib.hid (homeN_yes h)
    have HL := Lib.hid (logN_yes h)
    unfold Fit at h
    obtain ⟨k1, k2, p1, p2, c1, c2⟩ := h
    have hm := mul_bd (a := p) (b := 5 + (1 + 2 * (homeF k c + 2 * p))) (A := 16) (B := 2122) (by omega) (by omega) (by omega) (by omega)
    go_enter Tryd.func29, Tryd.ntmps29
    go_wp2_with (first | (go_at_call 33; refine (fFits _ _ _ _).mono ?_; rintro e wc ⟨rfl, hbc⟩; have hBc : Below w.heap.size w wc := Below.trans (by repeat (first | exact Below.refl _ _ | assumption | refine Below.drew ?_ | refine Below.alloc ?_ (by first | omega | (simp; omega) | (simp; done)) _ | refine Below.setCell ?_ (by first | omega | (simp; omega) | (simp; done)) _)) (hbc.mono (by first | omega | (simp; omega) | (simp; done))); obtain ⟨hcc, hfc⟩ := bcell hbc; have hzc := hbc.size; try simp at hzc; try (have hz0' : w.heap.size < wc.heap.size := (by omega)); try (have hz1' : w.heap.size + 1 < wc.heap.size := (by omega)); try (have hz2' : w.heap.size + 1 + 1 < wc.heap.size := (by omega))))
    have hrg := regrown_cell wc
    refine wp_region_quiet_below (by kernel_rfl) (by kernel_rfl) ?_
    repeat (quiet_step (first | exact Calls.regrown_of (HH.out ▸ fHome _ _ _ _) | exact Calls.regrown_of (HL.out ▸ fLogSize _ _ _ _)))
    refine wpQuiet_nil ?_; intro wq hwq; obtain ⟨pq, hpq⟩ := hwq
    have hB : Below w.heap.size w wq := Below.trans hBc ((hpq ▸ below_regrown _ _ _ : Below _ wc wq).mono (by omega))
    clear hrg hpq
    go_wp2
    go_ret
    refine ⟨ret_int ?_, hB⟩
    show IntKind.i64.wrap (IntKind.i64.wrap (1 + IntKind.i64.wrap (p * IntKind.i64.wrap (5 + (1 + 2 * (homeF k c + 2 * p))))) + homeF k c) = _
    rw [w64 (x := 5 + (1 + 2 * (homeF k c + 2 * p))) (by omega) (by omega), w64 (x := p * (5 + (1 + 2 * (homeF k c + 2 * p)))) (by omega) (by omega), w64 (x := 1 + p * (5 + (1 + 2 * (homeF k c + 2 * p)))) (by omega) (by omega), w64 (by omega) (by omega)]
  · rw [sizeN_no h]
    have hF := fitsB_no h
    clear h
    go_enter Tryd.func29, Tryd.ntmps29
    go_wp2_with (first | (go_at_call 33; refine (fFits _ _ _ _).mono ?_; rintro e wc ⟨rfl, hbc⟩; have hBc : Below w.heap.size w wc := Below.trans (by repeat (first | exact Below.refl _ _ | assumption | refine Below.drew ?_ | refine Below.alloc ?_ (by first | omega | (simp; omega) | (simp; done)) _ | refine Below.setCell ?_ (by first | omega | (simp; omega) | (simp; done)) _)) (hbc.mono (by first | omega | (simp; omega) | (simp; done))); obtain ⟨hcc, hfc⟩ := bcell hbc; have hzc := hbc.size; try simp at hzc; try (have hz0' : w.heap.size < wc.heap.size := (by omega)); try (have hz1' : w.heap.size + 1 < wc.heap.size := (by omega)); try (have hz2' : w.heap.size + 1 + 1 < wc.heap.size := (by omega))))
    go_ret
    exact ⟨rfl, (by repeat (first | exact Below.refl _ _ | assumption | refine Below.drew ?_ | refine Below.alloc ?_ (by first | omega | (simp; omega) | (simp; done)) _ | refine Below.setCell ?_ (by first | omega | (simp; omega) | (simp; done)) _))⟩

end Go.Proofs.YthigfjelgbdcfaaDoor

namespace Go.Proofs.YthigfjelgbdcfaaDoor
open Go.RowKit

theorem fOwners (k p c i : Int) (w : World) (h0 : 0 ≤ i) (h1 : i ≤ 4) : Calls Tryd.prog 59 #[conf k p c, .int .i64 i] w fun e w' => e = .returned (.int .i64 (partOwn p i)) ∧ Below w.heap.size w w' := by
  rcases five h0 h1 with rfl | rfl | rfl | rfl | rfl
  all_goals
    go_enter Tryd.func59, Tryd.ntmps59
    go_wp2
    go_ret
    exact ⟨ret_int (by simp [partOwn]), (by repeat (first | exact Below.refl _ _ | assumption | refine Below.drew ?_ | refine Below.alloc ?_ (by first | omega | (simp; omega) | (simp; done)) _ | refine Below.setCell ?_ (by first | omega | (simp; omega) | (simp; done)) _))⟩

theorem fsize (k p c i : Int) (w : World) (h : Fit k p c) (h0 : 0 ≤ i) (h1 : i ≤ 4) : Calls Tryd.prog 58 #[conf k p c, .int .i64 i] w fun e w' => e = .returned (.int .i64 (partSize k p c i)) ∧ Below w.heap.size w w' := by
  have HH := Lib.hid (homeN_yes h)
  have HL := Lib.hid (logN_yes h)
  clear h
  rcases five h0 h1 with rfl | rfl | rfl | rfl | rfl
  all_goals
    go_enter Tryd.func58, Tryd.ntmps58
    go_wp2_with (first | (go_at_call 32; refine ((HH.out ▸ fHome _ _ _ _)).mono ?_; rintro e wc ⟨rfl, hbc⟩; have hBc : Below w.heap.size w wc := Below.trans (by repeat (first | exact Below.refl _ _ | assumption | refine Below.drew ?_ | refine Below.alloc ?_ (by first | omega | (simp; omega) | (simp; done)) _ | refine Below.setCell ?_ (by first | omega | (simp; omega) | (simp; done)) _)) (hbc.mono (by first | omega | (simp; omega) | (simp; done))); obtain ⟨hcc, hfc⟩ := bcell hbc; have hzc := hbc.size; try simp at hzc; try (have hz0' : w.heap.size < wc.heap.size := (by omega)); try (have hz1' : w.heap.size + 1 < wc.heap.size := (by omega)); try (have hz2' : w.heap.size + 1 + 1 < wc.heap.size := (by omega))) | (go_at_call 35; refine ((HL.out ▸ fLogSize _ _ _ _)).mono ?_; rintro e wc ⟨rfl, hbc⟩; have hBc : Below w.heap.size w wc := Below.trans (by repeat (first | exact Below.refl _ _ | assumption | refine Below.drew ?_ | refine Below.alloc ?_ (by first | omega | (simp; omega) | (simp; done)) _ | refine Below.setCell ?_ (by first | omega | (simp; omega) | (simp; done)) _)) (hbc.mono (by first | omega | (simp; omega) | (simp; done))); obtain ⟨hcc, hfc⟩ := bcell hbc; have hzc := hbc.size; try simp at hzc; try (have hz0' : w.heap.size < wc.heap.size := (by omega)); try (have hz1' : w.heap.size + 1 < wc.heap.size := (by omega)); try (have hz2' : w.heap.size + 1 + 1 < wc.heap.size := (by omega))))
    go_ret
    exact ⟨ret_int (by simp [partSize]), (by repeat (first | exact Below.refl _ _ | assumption | refine Below.drew ?_ | refine Below.alloc ?_ (by first | omega | (simp; omega) | (simp; done)) _ | refine Below.setCell ?_ (by first | omega | (simp; omega) | (simp; done)) _))⟩

theorem cells3 (w : World) (a b c : Value) (t : TypeId) {W : World} (h : Below (w.alloc (.cells #[a, b, c] t)).heap.size (w.alloc (.cells #[a, b, c] t)) W) :
    W.cell? ⟨w.heap.size, 0, none⟩ = some a ∧ W.cell? ⟨w.heap.size, 1, none⟩ = some b ∧ W.cell? ⟨w.heap.size, 2, none⟩ = some c ∧ w.heap.size < W.heap.size := by
  have hs := h.size
  simp only [World.size_alloc] at hs
  exact ⟨(h.cell (p := ⟨w.heap.size, 0, none⟩) (by simp)).trans (by simp), (h.cell (p := ⟨w.heap.size, 1, none⟩) (by simp)).trans (by simp), (h.cell (p := ⟨w.heap.size, 2, none⟩) (by simp)).trans (by simp), by omega⟩

theorem cells3n {m : Nat} {a b c : Value} {W W1 : World} (h : W.cell? ⟨m, 0, none⟩ = some a ∧ W.cell? ⟨m, 1, none⟩ = some b ∧ W.cell? ⟨m, 2, none⟩ = some c ∧ m < W.heap.size) (hb : Below W.heap.size W W1) :
    W1.cell? ⟨m, 0, none⟩ = some a ∧ W1.cell? ⟨m, 1, none⟩ = some b ∧ W1.cell? ⟨m, 2, none⟩ = some c ∧ m < W1.heap.size :=
  ⟨(hb.cell (p := ⟨m, 0, none⟩) h.2.2.2).trans h.1, (hb.cell (p := ⟨m, 1, none⟩) h.2.2.2).trans h.2.1, (hb.cell (p := ⟨m, 2, none⟩) h.2.2.2).trans h.2.2.1, Nat.lt_of_lt_of_le h.2.2.2 hb.size⟩

theorem fAt_conf (k p c i q : Int) (w : World) (h : ¬ Fit k p c) : Calls Tryd.prog 31 #[conf k p c, .int .i64 i, .int .i64 q] w fun e w' => e = .returned (.tuple #[.int .i64 0, .int .i64 5]) ∧ Below w.heap.size w w' := by
  have hF := fitsB_no h
  clear h
  go_enter Tryd.func31, Tryd.ntmps31
  go_wp2_with (first | (go_at_call 33; refine (fFits _ _ _ _).mono ?_; rintro e wc ⟨rfl, hbc⟩; have hBc : Below w.heap.size w wc := Below.trans (by repeat (first | exact Below.refl _ _ | assumption | refine Below.drew ?_ | refine Below.alloc ?_ (by first | omega | (simp; omega) | (simp; done)) _ | refine Below.setCell ?_ (by first | omega | (simp; omega) | (simp; done)) _)) (hbc.mono (by first | omega | (simp; omega) | (simp; done))); obtain ⟨hcc, hfc⟩ := bcell hbc; have hzc := hbc.size; try simp at hzc; try (have hz0' : w.heap.size < wc.heap.size := (by omega)); try (have hz1' : w.heap.size + 1 < wc.heap.size := (by omega)); try (have hz2' : w.heap.size + 1 + 1 < wc.heap.size := (by omega))))
  go_ret2
  exact ⟨rfl, (by repeat (first | exact Below.refl _ _ | assumption | refine Below.drew ?_ | refine Below.alloc ?_ (by first | omega | (simp; omega) | (simp; done)) _ | refine Below.setCell ?_ (by first | omega | (simp; omega) | (simp; done)) _))⟩

theorem fAt_arg (k p c i q : Int) (w : World) (h : Fit k p c) (ha : i < 0 ∨ 4 < i ∨ q < 0 ∨ p ≤ q) : Calls Tryd.prog 31 #[conf k p c, .int .i64 i, .int .i64 q] w fun e w' => e = .returned (.tuple #[.int .i64 0, .int .i64 1]) ∧ Below w.heap.size w w' := by
  have hF := fitsB_yes h
  unfold Fit at h
  by_cases h1 : 0 ≤ i ∧ i ≤ 4
  · have i1 := inB_yes h1
    have i2 := inB_no (n := q) (a := 0) (b := p - 1) (by omega)
    clear ha
    go_enter Tryd.func31, Tryd.ntmps31
    go_wp2_with (first | (go_at_call 33; refine (fFits _ _ _ _).mono ?_; rintro e wc ⟨rfl, hbc⟩; have hBc : Below w.heap.size w wc := Below.trans (by repeat (first | exact Below.refl _ _ | assumption | refine Below.drew ?_ | refine Below.alloc ?_ (by first | omega | (simp; omega) | (simp; done)) _ | refine Below.setCell ?_ (by first | omega | (simp; omega) | (simp; done)) _)) (hbc.mono (by first | omega | (simp; omega) | (simp; done))); obtain ⟨hcc, hfc⟩ := bcell hbc; have hzc := hbc.size; try simp at hzc; try (have hz0' : w.heap.size < wc.heap.size := (by omega)); try (have hz1' : w.heap.size + 1 < wc.heap.size := (by omega)); try (have hz2' : w.heap.size + 1 + 1 < wc.heap.size := (by omega))) | (go_at_call 57; refine (fIn _ _ _ _).mono ?_; rintro e wc ⟨rfl, rfl⟩))
    go_ret2
    exact ⟨rfl, (by repeat (first | exact Below.refl _ _ | assumption | refine Below.drew ?_ | refine Below.alloc ?_ (by first | omega | (simp; omega) | (simp; done)) _ | refine Below.setCell ?_ (by first | omega | (simp; omega) | (simp; done)) _))⟩
  · have i1 := inB_no h1
    clear ha
    go_enter Tryd.func31, Tryd.ntmps31
    go_wp2_with (first | (go_at_call 33; refine (fFits _ _ _ _).mono ?_; rintro e wc ⟨rfl, hbc⟩; have hBc : Below w.heap.size w wc := Below.trans (by repeat (first | exact Below.refl _ _ | assumption | refine Below.drew ?_ | refine Below.alloc ?_ (by first | omega | (simp; omega) | (simp; done)) _ | refine Below.setCell ?_ (by first | omega | (simp; omega) | (simp; done)) _)) (hbc.mono (by first | omega | (simp; omega) | (simp; done))); obtain ⟨hcc, hfc⟩ := bcell hbc; have hzc := hbc.size; try simp at hzc; try (have hz0' : w.heap.size < wc.heap.size := (by omega)); try (have hz1' : w.heap.size + 1 < wc.heap.size := (by omega)); try (have hz2' : w.heap.size + 1 + 1 < wc.heap.size := (by omega))) | (go_at_call 57; refine (fIn _ _ _ _).mono ?_; rintro e wc ⟨rfl, rfl⟩))
    go_ret2
    exact ⟨rfl, (by repeat (first | exact Below.refl _ _ | assumption | refine Below.drew ?_ | refine Below.alloc ?_ (by first | omega | (simp; omega) | (simp; done)) _ | refine Below.setCell ?_ (by first | omega | (simp; omega) | (simp; done)) _))⟩

set_option maxHeartbeats 1000000 in
theorem fAt_ok (k p c i q : Int) (w : World) (h : Fit k p c) (h0 : 0 ≤ i) (h1 : i ≤ 4) (q0 : 0 ≤ q) (q1 : q < p) : Calls Tryd.prog 31 #[conf k p c, .int .i64 i, .int .i64 q] w fun e w' => e = .returned (.tuple #[.int .i64 (atN k p c i q), .int .i64 0]) ∧ Below w.heap.size w w' := by
  have hF := fitsB_yes h
  have HH := Lib.hid h
  have i1 := inB_yes ⟨h0, h1⟩
  have i2 := inB_yes (n := q) (a := 0) (b := p - 1) (by omega)
  unfold Fit at h
  obtain ⟨k1, k2, p1, p2, c1, c2⟩ := h
  go_enter Tryd.func31, Tryd.ntmps31
  go_wp2_with (first | (go_at_call 33; refine (fFits _ _ _ _).mono ?_; rintro e wc ⟨rfl, hbc⟩; have hBc : Below w.heap.size w wc := Below.trans (by repeat (first | exact Below.refl _ _ | assumption | refine Below.drew ?_ | refine Below.alloc ?_ (by first | omega | (simp; omega) | (simp; done)) _ | refine Below.setCell ?_ (by first | omega | (simp; omega) | (simp; done)) _)) (hbc.mono (by first | omega | (simp; omega) | (simp; done))); obtain ⟨hcc, hfc⟩ := bcell hbc; have hzc := hbc.size; try simp at hzc; try (have hz0' : w.heap.size < wc.heap.size := (by omega)); try (have hz1' : w.heap.size + 1 < wc.heap.size := (by omega)); try (have hz2' : w.heap.size + 1 + 1 < wc.heap.size := (by omega))) | (go_at_call 57; refine (fIn _ _ _ _).mono ?_; rintro e wc ⟨rfl, rfl⟩))
  go_loopw [8, 9] (fun a j wr => ∃ n : Nat, (n : Int) ≤ i ∧ j = .int .i64 n ∧ a = .int .i64 (preN k p c n) ∧ Below (w.alloc (.cells #[.int .i64 k, .int .i64 p, .int .i64 c] 24)).heap.size (w.alloc (.cells #[.int .i64 k, .int .i64 p, .int .i64 c] 24)) wr) (fun _ j _ => (i - intOf j).toNat)
  case atStart => exact ⟨0, h0, rfl, by simp [preN], hbc⟩
  case round =>
    obtain ⟨n, hn, rfl, rfl, hB⟩ := hrel
    clear hbc hcc hfc
    obtain ⟨b0, b1, b2, hs⟩ := cells3 _ _ _ _ _ hB
    have hbd := part_bd HH.out (i := n) (by omega) (by omega)
    have hpd := prod_bd HH.out (i := n) (by omega) (by omega)
    have hpr := pre_bd HH.out (i := n)
    by_cases hlt : (n : Int) < i
    · have e1 : IntKind.i64.wrap (partSize k p c n * partOwn p n) = partSize k p c n * partOwn p n := w64 (by omega) (by omega)
      have e2 : IntKind.i64.wrap (preN k p c n + partSize k p c n * partOwn p n) = preN k p c (n + 1) := by rw [pre_step (by omega) (by omega)]; exact w64 (by omega) (by omega)
      have hr1 : (n : Int) ≤ 4 := by omega
      go_wp2_with fail
      have hrg := regrown_cell wr
      refine wp_region_quiet_below (by kernel_rfl) (by kernel_rfl) ?_
      repeat (quiet_step (first | exact Calls.regrown_of (fsize _ _ _ _ _ HH.out (by omega) hr1) | exact Calls.regrown_of (fOwners _ _ _ _ _ (by omega) hr1)))
      refine wpQuiet_nil ?_; intro wq hwq; obtain ⟨pq, hpq⟩ := hwq
      have hB2 := Below.trans hB ((hpq ▸ below_regrown _ _ _ : Below _ wr wq).mono hB.size)
      clear hrg hpq e1 e2
      go_wp2
      go_roundw
      case rel => exact ⟨n + 1, by omega, by go_num, rfl, hB2⟩
      case measure => simp [intOf]; omega
    · obtain rfl : (n : Int) = i := by omega
      have hBr : Below w.heap.size w wr := Below.trans (blk_alloc w _) (hB.mono (by simp))
      have hr1 : (n : Int) ≤ 4 := by omega
      clear hB
      by_cases hq : 1 < partOwn p n
      · have hat : atN k p c n q = preN k p c n + q * partSize k p c n := by unfold atN; rw [if_neg (by intro h; unfold partOwn at hq; rw [if_pos h] at hq; omega)]
        have hm := mul_bd (a := q) (b := partSize k p c n) (A := 16) (B := 2117) (by omega) (by omega) (by omega) (by omega)
        have Hat := Lib.hid hat
        clear hat
        have e1 : IntKind.i64.wrap (q * partSize k p c n) = q * partSize k p c n := w64 (by omega) (by omega)
        have e2 : IntKind.i64.wrap (preN k p c n + q * partSize k p c n) = preN k p c n + q * partSize k p c n := w64 (by omega) (by omega)
        go_wp2_with (first | (go_at_call 58; refine (fsize _ _ _ _ _ HH.out (by omega) hr1).mono ?_; rintro e wc ⟨rfl, hbc⟩; have hBc : Below w.heap.size w wc := Below.trans (by repeat (first | exact Below.refl _ _ | assumption | refine Below.drew ?_ | refine Below.alloc ?_ (by first | omega | (simp; omega) | (simp; done)) _ | refine Below.setCell ?_ (by first | omega | (simp; omega) | (simp; done)) _)) (hbc.mono (by first | omega | (simp; omega) | (simp; done))); obtain ⟨hcc, hfc⟩ := bcell hbc; have hzc := hbc.size; try simp at hzc; try (have hz0' : w.heap.size < wc.heap.size := (by omega)); try (have hz1' : w.heap.size + 1 < wc.heap.size := (by omega)); try (have hz2' : w.heap.size + 1 + 1 < wc.heap.size := (by omega))) | (go_at_call 59; refine (fOwners _ _ _ _ _ (by omega) hr1).mono ?_; rintro e wc ⟨rfl, hbc⟩; have hBc : Below w.heap.size w wc := Below.trans (by repeat (first | exact Below.refl _ _ | assumption | refine Below.drew ?_ | refine Below.alloc ?_ (by first | omega | (simp; omega) | (simp; done)) _ | refine Below.setCell ?_ (by first | omega | (simp; omega) | (simp; done)) _)) (hbc.mono (by first | omega | (simp; omega) | (simp; done))); obtain ⟨hcc, hfc⟩ := bcell hbc; have hzc := hbc.size; try simp at hzc; try (have hz0' : w.heap.size < wc.heap.size := (by omega)); try (have hz1' : w.heap.size + 1 < wc.heap.size := (by omega)); try (have hz2' : w.heap.size + 1 + 1 < wc.heap.size := (by omega))))
        go_ret2
        refine ⟨?_, (by repeat (first | exact Below.refl _ _ | assumption | refine Below.drew ?_ | refine Below.alloc ?_ (by first | omega | (simp; omega) | (simp; done)) _ | refine Below.setCell ?_ (by first | omega | (simp; omega) | (simp; done)) _))⟩
        rw [Hat.out]
        rfl
      · have hat : atN k p c n q = preN k p c n := by
          unfold atN
          split
          · omega
          · rename_i h
            unfold partOwn at hq
            rw [if_neg h] at hq
            have : q = 0 := by omega
            subst this; omega
        have Hat := Lib.hid hat
        clear hat
        go_wp2_with (first | (go_at_call 59; refine (fOwners _ _ _ _ _ (by omega) hr1).mono ?_; rintro e wc ⟨rfl, hbc⟩; have hBc : Below w.heap.size w wc := Below.trans (by repeat (first | exact Below.refl _ _ | assumption | refine Below.drew ?_ | refine Below.alloc ?_ (by first | omega | (simp; omega) | (simp; done)) _ | refine Below.setCell ?_ (by first | omega | (simp; omega) | (simp; done)) _)) (hbc.mono (by first | omega | (simp; omega) | (simp; done))); obtain ⟨hcc, hfc⟩ := bcell hbc; have hzc := hbc.size; try simp at hzc; try (have hz0' : w.heap.size < wc.heap.size := (by omega)); try (have hz1' : w.heap.size + 1 < wc.heap.size := (by omega)); try (have hz2' : w.heap.size + 1 + 1 < wc.heap.size := (by omega))))
        go_ret2
        refine ⟨?_, (by repeat (first | exact Below.refl _ _ | assumption | refine Below.drew ?_ | refine Below.alloc ?_ (by first | omega | (simp; omega) | (simp; done)) _ | refine Below.setCell ?_ (by first | omega | (simp; omega) | (simp; done)) _))⟩
        rw [Hat.out]
        rfl

theorem fWhere_no (k p c a : Int) (w : World) (h : ¬ Fit k p c ∨ a < 0) : Calls Tryd.prog 38 #[conf k p c, .int .i64 a] w fun e w' => e = .returned (.tuple #[.int .i64 5, .int .i64 0, .int .i64 0]) ∧ Below w.heap.size w w' := by
  by_cases hf : Fit k p c
  · have hF := fitsB_yes hf
    have ha : a < 0 := h.resolve_left (fun x => x hf)
    clear h hf
    go_enter Tryd.func38, Tryd.ntmps38
    go_wp2_with (first | (go_at_call 33; refine (fFits _ _ _ _).mono ?_; rintro e wc ⟨rfl, hbc⟩; have hBc : Below w.heap.size w wc := Below.trans (by repeat (first | exact Below.refl _ _ | assumption | refine Below.drew ?_ | refine Below.alloc ?_ (by first | omega | (simp; omega) | (simp; done)) _ | refine Below.setCell ?_ (by first | omega | (simp; omega) | (simp; done)) _)) (hbc.mono (by first | omega | (simp; omega) | (simp; done))); obtain ⟨hcc, hfc⟩ := bcell hbc; have hzc := hbc.size; try simp at hzc; try (have hz0' : w.heap.size < wc.heap.size := (by omega)); try (have hz1' : w.heap.size + 1 < wc.heap.size := (by omega)); try (have hz2' : w.heap.size + 1 + 1 < wc.heap.size := (by omega))))
    go_ret3
    exact ⟨rfl, (by repeat (first | exact Below.refl _ _ | assumption | refine Below.drew ?_ | refine Below.alloc ?_ (by first | omega | (simp; omega) | (simp; done)) _ | refine Below.setCell ?_ (by first | omega | (simp; omega) | (simp; done)) _))⟩
  · have hF := fitsB_no hf
    clear h hf
    go_enter Tryd.func38, Tryd.ntmps38
    go_wp2_with (first | (go_at_call 33; refine (fFits _ _ _ _).mono ?_; rintro e wc ⟨rfl, hbc⟩; have hBc : Below w.heap.size w wc := Below.trans (by repeat (first | exact Below.refl _ _ | assumption | refine Below.drew ?_ | refine Below.alloc ?_ (by first | omega | (simp; omega) | (simp; done)) _ | refine Below.setCell ?_ (by first | omega | (simp; omega) | (simp; done)) _)) (hbc.mono (by first | omega | (simp; omega) | (simp; done))); obtain ⟨hcc, hfc⟩ := bcell hbc; have hzc := hbc.size; try simp at hzc; try (have hz0' : w.heap.size < wc.heap.size := (by omega)); try (have hz1' : w.heap.size + 1 < wc.heap.size := (by omega)); try (have hz2' : w.heap.size + 1 + 1 < wc.heap.size := (by omega))))
    go_ret3
    exact ⟨rfl, (by repeat (first | exact Below.refl _ _ | assumption | refine Below.drew ?_ | refine Below.alloc ?_ (by first | omega | (simp; omega) | (simp; done)) _ | refine Below.setCell ?_ (by first | omega | (simp; omega) | (simp; done)) _))⟩

def tri (x : Int × Int × Int) : Value := .tuple #[.int .i64 x.1, .int .i64 x.2.1, .int .i64 x.2.2]

set_option maxHeartbeats 1000000 in
theorem fWhere_ok (k p c a : Int) (w : World) (h : Fit k p c) (ha : 0 ≤ a) (hm : a ≤ 9223372036854775807) : Calls Tryd.prog 38 #[conf k p c, .int .i64 a] w fun e w' => e = .returned (tri (whereN k p c a)) ∧ Below w.heap.size w w' := by
  have hF := fitsB_yes h
  have HH := Lib.hid h
  unfold Fit at h
  obtain ⟨k1, k2, p1, p2, c1, c2⟩ := h
  go_enter Tryd.func38, Tryd.ntmps38
  go_wp2_with (first | (go_at_call 33; refine (fFits _ _ _ _).mono ?_; rintro e wc ⟨rfl, hbc⟩; have hBc : Below w.heap.size w wc := Below.trans (by repeat (first | exact Below.refl _ _ | assumption | refine Below.drew ?_ | refine Below.alloc ?_ (by first | omega | (simp; omega) | (simp; done)) _ | refine Below.setCell ?_ (by first | omega | (simp; omega) | (simp; done)) _)) (hbc.mono (by first | omega | (simp; omega) | (simp; done))); obtain ⟨hcc, hfc⟩ := bcell hbc; have hzc := hbc.size; try simp at hzc; try (have hz0' : w.heap.size < wc.heap.size := (by omega)); try (have hz1' : w.heap.size + 1 < wc.heap.size := (by omega)); try (have hz2' : w.heap.size + 1 + 1 < wc.heap.size := (by omega))))
  go_loopw [1, 7, 8] (fun x j z wr => ∃ n : Nat, n ≤ 5 ∧ j = .int .i64 n ∧ x = .int .i64 (a - preN k p c n) ∧ preN k p c n ≤ a ∧ Below (w.alloc (.cells #[.int .i64 k, .int .i64 p, .int .i64 c] 24)).heap.size (w.alloc (.cells #[.int .i64 k, .int .i64 p, .int .i64 c] 24)) wr) (fun _ j _ _ => (5 - intOf j).toNat)
  case atStart => exact ⟨0, by omega, rfl, by simp [preN], by simpa [preN] using ha, hbc⟩
  case round =>
    obtain ⟨n, hn, rfl, rfl, hle, hB⟩ := hrel
    clear hbc hcc hfc
    obtain ⟨b0, b1, b2, hs⟩ := cells3 _ _ _ _ _ hB
    have hBr : Below w.heap.size w wr := Below.trans (blk_alloc w _) (hB.mono (by simp))
    have hpr := pre_bd HH.out (i := n)
    by_cases hlt : n = 5
    · subst hlt
      have hw := Lib.hid (where_end HH.out hle)
      go_wp2_with fail
      go_ret3
      refine ⟨?_, (by repeat (first | exact Below.refl _ _ | assumption | refine Below.drew ?_ | refine Below.alloc ?_ (by first | omega | (simp; omega) | (simp; done)) _ | refine Below.setCell ?_ (by first | omega | (simp; omega) | (simp; done)) _))⟩
      rw [hw.out]
      rfl
    · have hn4 : n < 5 := by omega
      clear hn hlt
      have hr1 : (n : Int) ≤ 4 := by omega
      have hbd := part_bd HH.out (i := n) (by omega) (by omega)
      have hpd := prod_bd HH.out (i := n) (by omega) (by omega)
      have hstep := pre_step (k := k) (p := p) (c := c) (i := n) (by omega) hr1
      by_cases hin : a - preN k p c n < partSize k p c n * partOwn p n
      · have hw := Lib.hid (where_at HH.out (by omega) hr1 hle (by rw [hstep]; omega))
        clear hstep
        have e1 : IntKind.i64.wrap (partSize k p c n * partOwn p n) = partSize k p c n * partOwn p n := w64 (by omega) (by omega)
        go_wp2_with (first | (go_at_call 58; refine (fsize _ _ _ _ _ HH.out (by omega) hr1).mono ?_; rintro e wc ⟨rfl, hbc⟩; have hBc : Below w.heap.size w wc := Below.trans (by repeat (first | exact Below.refl _ _ | assumption | refine Below.drew ?_ | refine Below.alloc ?_ (by first | omega | (simp; omega) | (simp; done)) _ | refine Below.setCell ?_ (by first | omega | (simp; omega) | (simp; done)) _)) (hbc.mono (by first | omega | (simp; omega) | (simp; done))); obtain ⟨hcc, hfc⟩ := bcell hbc; have hzc := hbc.size; try simp at hzc; try (have hz0' : w.heap.size < wc.heap.size := (by omega)); try (have hz1' : w.heap.size + 1 < wc.heap.size := (by omega)); try (have hz2' : w.heap.size + 1 + 1 < wc.heap.size := (by omega))) | (go_at_call 59; refine (fOwners _ _ _ _ _ (by omega) hr1).mono ?_; rintro e wc ⟨rfl, hbc⟩; have hBc : Below w.heap.size w wc := Below.trans (by repeat (first | exact Below.refl _ _ | assumption | refine Below.drew ?_ | refine Below.alloc ?_ (by first | omega | (simp; omega) | (simp; done)) _ | refine Below.setCell ?_ (by first | omega | (simp; omega) | (simp; done)) _)) (hbc.mono (by first | omega | (simp; omega) | (simp; done))); obtain ⟨hcc, hfc⟩ := bcell hbc; have hzc := hbc.size; try simp at hzc; try (have hz0' : w.heap.size < wc.heap.size := (by omega)); try (have hz1' : w.heap.size + 1 < wc.heap.size := (by omega)); try (have hz2' : w.heap.size + 1 + 1 < wc.heap.size := (by omega))))
        have nz : ¬ partSize k p c n = 0 := by omega
        have na : 0 ≤ a - preN k p c n := by omega
        have Hpost := Lib.hid (show Below w.heap.size w wc from by assumption)
        go_quiet (fail)
        go_wp2
        go_ret3
        refine ⟨?_, below_drewN Hpost.out _⟩
        rw [hw.out]
        rfl
      · have e1 : IntKind.i64.wrap (partSize k p c n * partOwn p n) = partSize k p c n * partOwn p n := w64 (by omega) (by omega)
        have e2 : a - preN k p c n - partSize k p c n * partOwn p n = a - preN k p c (n + 1) := by omega
        have hle2 : preN k p c (n + 1) ≤ a := by omega
        clear hstep
        go_wp2_with (first | (go_at_call 58; refine (fsize _ _ _ _ _ HH.out (by omega) hr1).mono ?_; rintro e wc ⟨rfl, hbc⟩; have hBc : Below w.heap.size w wc := Below.trans (by repeat (first | exact Below.refl _ _ | assumption | refine Below.drew ?_ | refine Below.alloc ?_ (by first | omega | (simp; omega) | (simp; done)) _ | refine Below.setCell ?_ (by first | omega | (simp; omega) | (simp; done)) _)) (hbc.mono (by first | omega | (simp; omega) | (simp; done))); obtain ⟨b0, b1, b2, hs⟩ := cells3n ⟨b0, b1, b2, hs⟩ hbc; replace hB := Below.trans hB (hbc.mono hB.size); clear hbc) | (go_at_call 59; refine (fOwners _ _ _ _ _ (by omega) hr1).mono ?_; rintro e wc ⟨rfl, hbc⟩; have hBc : Below w.heap.size w wc := Below.trans (by repeat (first | exact Below.refl _ _ | assumption | refine Below.drew ?_ | refine Below.alloc ?_ (by first | omega | (simp; omega) | (simp; done)) _ | refine Below.setCell ?_ (by first | omega | (simp; omega) | (simp; done)) _)) (hbc.mono (by first | omega | (simp; omega) | (simp; done))); obtain ⟨b0, b1, b2, hs⟩ := cells3n ⟨b0, b1, b2, hs⟩ hbc; replace hB := Below.trans hB (hbc.mono hB.size); clear hbc))
        go_roundw
        case rel => exact ⟨n + 1, by omega, by go_num, rfl, hle2, hB⟩
        case measure => simp [intOf]; omega

end Go.Proofs.YthigfjelgbdcfaaDoor
