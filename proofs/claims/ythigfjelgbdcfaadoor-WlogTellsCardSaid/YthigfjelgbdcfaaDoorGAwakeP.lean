/- Plain facts of the reference at the small inputs that the law's awake tries. -/
import Derived.Test.YthigfjelgbdcfaaDoorGMemR
import Derived.Test.YthigfjelgbdcfaaDoorGPickB

set_option linter.unusedSimpArgs false
set_option linter.unusedVariables false

/-! The law's awake: the numbers. -/
namespace Go.Proofs.YthigfjelgbdcfaaDoor
open Go.RowKit Go.Maps

theorem aw_fit : Fit 1 1 1 := by unfold Fit; omega
theorem aw_home : homeF 1 1 = 1 := by decide
theorem aw_log : logN 1 1 1 = 7 := by decide
theorem aw_size : sizeN 1 1 1 = 14 := by decide
theorem aw_at : atN 1 1 1 3 0 = 6 := by decide
theorem aw_p13 : placeB 1 1 1 13 = true := by decide
theorem aw_p12 : placeB 1 1 1 12 = false := by decide
theorem wu_in {x : Int} (h0 : 0 ≤ x) (h1 : x ≤ 18446744073709551615) : wu x = x := by unfold wu; rw [IntKind.wrap_u64]; omega
theorem aw_ok {x y : Int} (h0 : 0 ≤ x) (h1 : x ≤ 1000) (h : placeB 1 1 1 x = true) : PkOk 1 1 1 [(x, y)] 1 := by
  intro i z hi hz
  have : i = 0 := by omega
  subst this
  simp at hz
  subst hz
  refine ⟨by simp only; rw [wu_in (by omega) (by omega)]; exact h, fun j y hj => by omega⟩
theorem aw_pack : packR 1 1 1 [(13, 5)] = ([1, 13, 5, 0, 0, 0, 0], 0) := by
  unfold packR
  rw [if_pos aw_fit, if_neg (by rw [aw_home]; simp), if_pos (show PkOk 1 1 1 [(13, 5)] [((13 : Int), (5 : Int))].length from aw_ok (by omega) (by omega) aw_p13), aw_log]
  simp [packW, pk, wu_in, List.replicate]
theorem aw_pack2 : packR 1 1 1 [(12, 5)] = ([], 1) := by
  unfold packR
  rw [if_pos aw_fit, if_neg (by rw [aw_home]; simp), if_neg]
  intro h
  have := (h 0 (12, 5) (by simp) rfl).1
  simp only at this
  rw [wu_in (by omega) (by omega), aw_p12] at this
  cases this
theorem aw_un : unR 1 1 1 [1, 13, 5, 0, 0, 0, 0] = ([(13, 5)], 0) := by
  unfold unR
  rw [if_pos aw_fit, if_neg (by rw [aw_log, aw_home]; simp), if_pos]
  · simp [unL]
  · refine ⟨fun i hi => ?_, ?_, ?_⟩
    · have : i = 0 := by simp at hi; omega
      subst this
      simpa using aw_p13
    · simpa [unL] using aw_ok (y := 5) (by omega) (by omega) aw_p13
    · simp [unL, packW, pk, wu_in, List.replicate]
theorem aw_un2 : unR 1 1 1 [1, 13, 5, 0, 0, 0, 1] = ([], 2) := by
  unfold unR
  rw [if_pos aw_fit, if_neg (by rw [aw_log, aw_home]; simp), if_neg]
  rintro ⟨_, _, h⟩
  simp [unL, packW, pk, wu_in, List.replicate] at h

/-- memory with the log, laid, wiped -/
def awM : List (Int × Int) := [(0, 0), (0, 0), (0, 0), (0, 0), (0, 0), (0, 0), (1, 0), (13, 0), (5, 0), (0, 0), (0, 0), (0, 0), (0, 0), (0, 0)]
def awX : List (Int × Int) := [(0, 0), (0, 0), (0, 0), (0, 0), (0, 0), (0, 0), (1, 0), (13, 0), (5, 0), (0, 0), (0, 0), (0, 0), (0, 0), (5, 0)]
def awY : List (Int × Int) := [(0, 0), (0, 0), (0, 0), (0, 0), (0, 0), (0, 0), (0, 0), (0, 0), (0, 0), (0, 0), (0, 0), (0, 0), (0, 0), (5, 0)]
theorem aw_with : withTo (List.replicate 14 (0, 0)) 6 [1, 13, 5, 0, 0, 0, 0] (min 7 7) = awM := by decide
theorem aw_memM : MemOk awM := by
  show ∀ x ∈ awM, 0 ≤ x.1 ∧ x.1 ≤ 18446744073709551615
  decide
theorem aw_lay : layR 1 1 1 0 awM = (awX, 0) := by
  have e : unR 1 1 1 (logW awM (atN 1 1 1 3 0).toNat (logN 1 1 1).toNat) = ([(13, 5)], 0) := by
    rw [aw_at, aw_log]
    exact aw_un
  unfold layR
  rw [if_pos aw_fit, if_pos (by rw [aw_size]; decide), e]
  simp only [if_true]
  decide
theorem aw_wipe : wipeR 1 1 1 0 awX = (awY, 0) := by
  unfold wipeR
  rw [if_pos aw_fit, if_pos (by rw [aw_size]; decide), aw_at, aw_log]
  decide

end Go.Proofs.YthigfjelgbdcfaaDoor
