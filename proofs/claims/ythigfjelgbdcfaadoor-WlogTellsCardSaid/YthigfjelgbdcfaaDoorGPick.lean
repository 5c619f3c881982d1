/- The contract of the law's pick, whatever the input. -/
import Derived.Test.YthigfjelgbdcfaaDoorRows
import Derived.Test.YthigfjelgbdcfaaDoorGBase

namespace Go.Proofs.YthigfjelgbdcfaaDoor
open Go.RowKit

/-- which of n things a raw number speaks of -/
def pickI (c n : Int) : Int := (if c < 0 then -(c + 1) else c).tmod n

theorem pick_neg (c n : Int) (w : World) (hc : c < 0) (h0 : -9223372036854775808 ≤ c) (hn : 0 < n) : Calls Tryd.prog 9 #[.int .i64 c, .int .i64 n] w fun e w' => e = .returned (.int .i64 (pickI c n)) ∧ w = w' := by
  have e1 : IntKind.i64.wrap (c + 1) = c + 1 := w64 (by omega) (by omega)
  have e2 : IntKind.i64.wrap (-(c + 1)) = -(c + 1) := w64 (by omega) (by omega)
  have nz : ¬ n = 0 := by omega
  go_enter Tryd.func9, Tryd.ntmps9
  go_wp2
  go_ret
  exact ⟨ret_int (by unfold pickI; rw [if_pos hc, Int.neg_tmod]), rfl⟩

theorem pick_pos (c n : Int) (w : World) (hc : ¬ c < 0) (h0 : c ≤ 9223372036854775807) (hn : 0 < n) : Calls Tryd.prog 9 #[.int .i64 c, .int .i64 n] w fun e w' => e = .returned (.int .i64 (pickI c n)) ∧ w = w' := by
  have nz : ¬ n = 0 := by omega
  go_enter Tryd.func9, Tryd.ntmps9
  go_wp2
  go_ret
  exact ⟨ret_int (by unfold pickI; rw [if_neg (by omega), Int.tmod_eq_emod_of_nonneg (by omega)]), rfl⟩

end Go.Proofs.YthigfjelgbdcfaaDoor
