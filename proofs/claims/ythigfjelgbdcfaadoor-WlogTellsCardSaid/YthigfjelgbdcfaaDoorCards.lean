/-
  DERIVED. GIVEN WITH THE SEED: THE CARDS: each row of YthigfjelgbdcfaaDoorRows.lean that lists a variable, with what it lists TIED to the program's text (the seventh form; the later family's looks); each row that meets fmt, with fmt's text TOLD by the authors' own Lean function (tested against real Go, not proved from fmt's source: count such statements apart). THE CARD IS WHAT COUNTS. Prove the row's statement (the work); the ties are given (YthigfjelgbdcfaaDoorTie.lean); close each card by the builder's one call (the guide's Derived/Test/ToyasCard.lean, 'card_holds'). Laid BY PROGRAM, IN A SANDBOX (cutbox-door.mjs). By AI agents, Wed Nov 11 2026. No macro, syntax, notation, axiom, sorry.
-/
import Derived.Test.YthigfjelgbdcfaaDoorRows
import GoSem.ClaimSeven
namespace Go.Proofs.YthigfjelgbdcfaaDoor
namespace Rows

/-- THE TIED CARD OF 'whitewashlaw16.WlogTells'. -/
def wlogTellsCard : Claim7 := { stood := { row := wlogTellsRow, standIns := [], harness := (true, "0734264847ea05e7707e99ba8fe709b12352578ffc3a358f5908731f64772c9b"), looks := true }, kinds := [], alts := [], laidByText := true, laidKinds := [.data], laidTests := true, laidLooks := .later }
def WlogTellsCardSaid : Prop := Claim7.holds Tryd.pinned (.plain (OpenSpec.ofChange wlogTellsSpec)) wlogTellsCard

/-- THE TIED CARD OF 'whitewashlaw16.WlogHome'. -/
def wlogHomeCard : Claim7 := { stood := { row := wlogHomeRow, standIns := [], harness := (true, "0734264847ea05e7707e99ba8fe709b12352578ffc3a358f5908731f64772c9b"), looks := true }, kinds := [], alts := [], laidByText := true, laidKinds := [.data], laidTests := true, laidLooks := .later }
def WlogHomeCardSaid : Prop := Claim7.holds Tryd.pinned (.plain (OpenSpec.ofChange wlogHomeSpec)) wlogHomeCard

/-- THE SECOND FORM's CARD OF 'whitewashlaw16.WlogTells'. -/
def wlogTellsUptoCard : Claim7 := { stood := { row := wlogTellsUptoRow, standIns := [], harness := (true, "0734264847ea05e7707e99ba8fe709b12352578ffc3a358f5908731f64772c9b"), looks := true }, kinds := [], alts := [], laidByText := true, laidKinds := [.data], laidTests := true, laidLooks := .later }
def WlogTellsUptoCardSaid : Prop := Claim7.holds Tryd.pinned (.plain (OpenSpec.upto wlogTellsSpec)) wlogTellsUptoCard

/-- THE SECOND FORM's CARD OF 'whitewashlaw16.WlogHome'. -/
def wlogHomeUptoCard : Claim7 := { stood := { row := wlogHomeUptoRow, standIns := [], harness := (true, "0734264847ea05e7707e99ba8fe709b12352578ffc3a358f5908731f64772c9b"), looks := true }, kinds := [], alts := [], laidByText := true, laidKinds := [.data], laidTests := true, laidLooks := .later }
def WlogHomeUptoCardSaid : Prop := Claim7.holds Tryd.pinned (.plain (OpenSpec.upto wlogHomeSpec)) wlogHomeUptoCard
end Rows
end Go.Proofs.YthigfjelgbdcfaaDoor
