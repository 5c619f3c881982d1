/- The deferred function that turns a panic of the kind Errno into a result. -/
import Derived.Test.YthigfjelgbdcfaaDoorGRegF
import Derived.RecoverIn

/-! Layer 16: 'caught', deferred: in a fence. -/
namespace Go.Proofs.YthigfjelgbdcfaaDoor
open Go.RowKit

theorem caught_idle_in (n k : Nat) (w : World) :
    CallsDIn Fence.wide n Tryd.prog 39 #[.pointer (some ⟨k, 0, none⟩)] .returning w fun e u' w' => e = .returned (.tuple #[]) ∧ u' = .returning ∧ w = w' := by
  refine callsDIn_of_wpSIn Tryd.func39 rfl trivial fun c₀ cs hu => ?_
  apply wpSIn_seq
  apply wpSIn_region
  simp [wpOpsSIn, go_sem, recoverD, hu, Tryd.ntmps39, Exit.thenS]
  refine wpSIn_of_wpIn rfl ?_
  refine wpIn_wide.2 ?_
  simp only [Array.replicate_succ, Array.replicate_zero, List.push_toArray, List.nil_append, List.cons_append]
  go_wp2
  exact ⟨rfl, .returning, by rw [← hu], _, results_none rfl _ _ _, rfl, rfl, rfl⟩

theorem caught_panic_in (n k : Nat) (r x : Int) (w : World) (hk : k < w.heap.size) (hc : w.cell? ⟨k, 0, none⟩ = some (.int .i64 x)) (hz : w.frozen? ⟨k, 0, none⟩ = false) :
    CallsDIn Fence.wide n Tryd.prog 39 #[.pointer (some ⟨k, 0, none⟩)] (.panicking (oddCh r)) w fun e u' w' =>
      e = .returned (.tuple #[]) ∧ u' = .panicking [{ v := oddV r, recovered := true }] ∧ Below w.heap.size (w.setCell ⟨k, 0, none⟩ (.int .i64 r)) w' := by
  have hta := odd_assert
  refine callsDIn_of_wpSIn Tryd.func39 rfl trivial fun c₀ cs hu => ?_
  simp only [oddCh, oddV] at hu
  apply wpSIn_seq
  apply wpSIn_region
  simp [wpOpsSIn, go_sem, recoverD, hu, Tryd.ntmps39, Exit.thenS]
  refine wpSIn_of_wpIn rfl ?_
  refine wpIn_wide.2 ?_
  simp only [Array.replicate_succ, Array.replicate_zero, List.push_toArray, List.nil_append, List.cons_append]
  go_wp2
  exact ⟨rfl, _, rfl, _, results_none rfl _ _ _, rfl, rfl, (by repeat (first | exact Below.refl _ _ | assumption | refine Below.drew ?_ | refine Below.alloc ?_ (by first | omega | (simp; omega) | (simp; done)) _ | refine Below.setCell ?_ (by first | omega | (simp; omega) | (simp; done)) _))⟩

end Go.Proofs.YthigfjelgbdcfaaDoor
