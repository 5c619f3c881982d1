/- The tied card of WlogTells: whatever the input, WlogTells returns true and each argument reads as it read before; the one listed variable, region's table of objects, is tied to the program's text. -/
import Derived.Test.YthigfjelgbdcfaaDoorGLwRow
import Derived.Test.YthigfjelgbdcfaaDoorCards
import Derived.Test.YthigfjelgbdcfaaDoorTie
import Derived.SevenTiedAt

set_option linter.unusedSimpArgs false
set_option linter.unusedVariables false

/-! The tied card of WlogTells: its row, whose one listed variable is tied to the program's text. -/
namespace Go.Proofs.YthigfjelgbdcfaaDoor
open Go

theorem wlogTells_plain : ∀ t ∈ Tryd.f3.params.toList, Tryd.prog.wantsStandIn t = false := by
  rw [Tryd.params3]
  exact List.all_eq_true.1 (show ([22, 24, 25, 26, 27, 3, 28, 3, 3, 29, 32].all fun t => !Tryd.prog.wantsStandIn t) = true by kernel_rfl) |> fun h t ht => by simpa using h t ht

theorem wlogTells_card : Rows.WlogTellsCardSaid :=
  Claim7.holds_tied_plain_at .later [] [.data] true (true, "0734264847ea05e7707e99ba8fe709b12352578ffc3a358f5908731f64772c9b") true
    wlogTells_holds (fun _ h => by cases h) (by kernel_rfl) (fun _ h => by cases h) wlogTells_row_tie rfl ⟨rfl, rfl⟩ (by kernel_rfl) rfl
    (fun f fn hf hfn => by
      obtain rfl : f = 3 := Option.some.inj ((show Tryd.prog.funcNamed "whitewash/whitewashlaw16.WlogTells" = some 3 by kernel_rfl).symm.trans hf) |>.symm
      obtain rfl : fn = Tryd.f3 := (Option.some.inj (Tryd.func3.symm.trans hfn)).symm
      exact ⟨by kernel_rfl, fun j t ht => wlogTells_plain t (by rw [← Array.getElem?_toList] at ht; exact List.mem_of_getElem? ht)⟩)
    (by kernel_rfl)

end Go.Proofs.YthigfjelgbdcfaaDoor
