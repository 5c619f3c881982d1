/-
  NARROWER THAN 'FOR EVERY INPUT', by the rows' own cells (each row's printed sentence says how): WlogTells: laid · WlogHome: laid.
  DERIVED. THE GIVEN ROWS OF THIS SEAT. 2 by the template 'for every input the law returns true; each argument reads behind the call as it read before'; 0 by the template 'total and deterministic' (their statements: YthigfjelgbdcfaaDoorTotals.lean).
  GIVEN WITH THE SEED: the statements are not yours to turn. If you find one false, say at which input.
  Laid BY PROGRAM, IN A SANDBOX (cutbox-rows.mjs): the forced cells as the released guide's own fill.sh prints them over the translation 707b2e590c36765d… (all of the seat's roots in one cut). By AI agents, Wed Nov 11 2026. No macro, syntax, notation, axiom, sorry.
-/
import Derived.Test.YthigfjelgbdcfaaDoorChecked
import GoSem.Claim
import GoSem.ClaimJoined
import GoSem.ClaimMapViews
import Derived.JoinedTies
import Derived.KernelRfl
namespace Go.Proofs.YthigfjelgbdcfaaDoor
/- THE CELL 'sum', in the pinned program and in every row, IS THE sha256 OF THE DUMP (.gsa) THAT YthigfjelgbdcfaaDoorProg.lean LOADS. Nothing in Lean hashes anything: it is a label: what it is worth is what the hold of that sum in a sandbox is worth. -/
noncomputable def Tryd.pinned : Pinned := { name := "ythigfjelgbdcfaadoor", sum := "707b2e590c36765d909b30acab18a6b7aab00c606a9c879d351628df83a0230d", checked := Tryd.checked }
namespace Rows
def none {H : Type} : Left H := { results := [], args := [] }

/- WHAT THE LISTED PACKAGE-LEVEL VARIABLES READ AS WHEN THE CALL BEGINS. Each datum BY PROGRAM (the guide's laid-datum.mjs) off the statement by which the dump's own 'gosem.cut.vars' lays the variable. In a bare row this is a premise. The card (YthigfjelgbdcfaaDoorCards.lean) ties it to the program's text. -/
def laid_whitewash_region_objects {H : Type} : DataW H := .agg [.agg [.lit (.int .i64 0), .lit (.int .i64 0)], .agg [.lit (.int .i64 1), .lit (.int .i64 0)], .agg [.lit (.int .i64 1), .lit (.int .i64 2)], .agg [.lit (.int .i64 1), .lit (.int .i64 4)], .agg [.lit (.int .i64 2), .lit (.int .i64 4)], .agg [.lit (.int .i64 9), .lit (.int .i64 1)]]

/-- 'whitewashlaw16.WlogTells': WHATEVER THE INPUT: true; the input reads as it did. -/
def wlogTellsSpec : ChangeSpec := { name := "wlogTells", fn := fun _ => fun
  | [d1, d2, d3, d4, d5, d6, d7, d8, d9, d10, d11] => { results := [.lit (.bool true)], args := [d1, d2, d3, d4, d5, d6, d7, d8, d9, d10, d11] }
  | _ => none }
def wlogTellsRow : OpenClaim := { program := "ythigfjelgbdcfaadoor", sum := "707b2e590c36765d909b30acab18a6b7aab00c606a9c879d351628df83a0230d", func := "whitewash/whitewashlaw16.WlogTells", spec := "wlogTells", unfollowed := true, recurses := true, named := ["whitewash/region.objects"], apart := false, laid := [("whitewash/region.objects", laid_whitewash_region_objects)] }
def WlogTellsSaid : Prop := wlogTellsRow.holds Tryd.pinned (OpenSpec.ofChange wlogTellsSpec)

/-- ITS FALSE NEIGHBOUR: 'it returns false'. Refute it at one input. -/
def wlogTellsWrong : ChangeSpec := { name := "wlogTells", fn := fun _ => fun
  | [d1, d2, d3, d4, d5, d6, d7, d8, d9, d10, d11] => { results := [.lit (.bool false)], args := [d1, d2, d3, d4, d5, d6, d7, d8, d9, d10, d11] }
  | _ => none }
def WlogTellsWrongFalsely : Prop := wlogTellsRow.holds Tryd.pinned (OpenSpec.ofChange wlogTellsWrong)

/-- 'whitewashlaw16.WlogHome': WHATEVER THE INPUT: true; the input reads as it did. -/
def wlogHomeSpec : ChangeSpec := { name := "wlogHome", fn := fun _ => fun
  | [d1, d2, d3, d4] => { results := [.lit (.bool true)], args := [d1, d2, d3, d4] }
  | _ => none }
def wlogHomeRow : OpenClaim := { program := "ythigfjelgbdcfaadoor", sum := "707b2e590c36765d909b30acab18a6b7aab00c606a9c879d351628df83a0230d", func := "whitewash/whitewashlaw16.WlogHome", spec := "wlogHome", unfollowed := true, recurses := true, named := ["whitewash/region.objects"], apart := false, laid := [("whitewash/region.objects", laid_whitewash_region_objects)] }
def WlogHomeSaid : Prop := wlogHomeRow.holds Tryd.pinned (OpenSpec.ofChange wlogHomeSpec)

/-- ITS FALSE NEIGHBOUR: 'it returns false'. Refute it at one input. -/
def wlogHomeWrong : ChangeSpec := { name := "wlogHome", fn := fun _ => fun
  | [d1, d2, d3, d4] => { results := [.lit (.bool false)], args := [d1, d2, d3, d4] }
  | _ => none }
def WlogHomeWrongFalsely : Prop := wlogHomeRow.holds Tryd.pinned (OpenSpec.ofChange wlogHomeWrong)

/- THE SECOND FORM. 'bulk': how many values and letters a reading holds, each counted each time it is reached (what is shared counts as often as it is met; a slice's spare places count too). A statement '..UptoSaid' is the law's where the arguments, and the package variables that the reading takes, are together of bulk at most 1048576: NARROWER than '..Said'. Prove '..Said' where nothing that the law and all that it calls make is longer than what came in: it says more and counts as full. Else prove '..UptoSaid'. A law counts once. -/
mutual
def uptoBulk {H : Type} : DataW H → Nat
  | .lit (.string bytes) => bytes.length + 1
  | .lit _ => 1
  | .nil => 1
  | .ptr d => uptoBulk d + 1
  | .slice elems spare => uptoBulkAll elems + uptoBulkAll spare + 1
  | .agg parts => uptoBulkAll parts + 1
  | .iface _ d => uptoBulk d + 1
  | .map entries => uptoBulkEntries entries + 1
  | .held _ => 1
def uptoBulkAll {H : Type} : List (DataW H) → Nat
  | [] => 0
  | d :: r => uptoBulk d + uptoBulkAll r
def uptoBulkEntries {H : Type} : List (Lit × DataW H) → Nat
  | [] => 0
  | x :: r => uptoBulkEntry x + uptoBulkEntries r
def uptoBulkEntry {H : Type} : Lit × DataW H → Nat
  | (.string bytes, d) => bytes.length + uptoBulk d + 1
  | (_, d) => uptoBulk d + 1
 end
def uptoSmall : (H : Type) → List (DataW H) → Bool := fun _ ds => decide (uptoBulkAll ds ≤ 1048576)
def OpenSpec.upto (s : _root_.Go.ChangeSpec) : _root_.Go.OpenSpec := { _root_.Go.OpenSpec.ofChange s with cond := some uptoSmall }

/-- 'whitewashlaw16.WlogTells', WHERE WHAT IT READS IS OF BULK AT MOST 1048576: true; the input reads as it did. -/
def wlogTellsUptoRow : OpenClaim := { program := "ythigfjelgbdcfaadoor", sum := "707b2e590c36765d909b30acab18a6b7aab00c606a9c879d351628df83a0230d", func := "whitewash/whitewashlaw16.WlogTells", spec := "wlogTells", unfollowed := true, recurses := true, named := ["whitewash/region.objects"], apart := false, laid := [("whitewash/region.objects", laid_whitewash_region_objects)], narrowed := true }
def WlogTellsUptoSaid : Prop := wlogTellsUptoRow.holds Tryd.pinned (OpenSpec.upto wlogTellsSpec)

/-- 'whitewashlaw16.WlogHome', WHERE WHAT IT READS IS OF BULK AT MOST 1048576: true; the input reads as it did. -/
def wlogHomeUptoRow : OpenClaim := { program := "ythigfjelgbdcfaadoor", sum := "707b2e590c36765d909b30acab18a6b7aab00c606a9c879d351628df83a0230d", func := "whitewash/whitewashlaw16.WlogHome", spec := "wlogHome", unfollowed := true, recurses := true, named := ["whitewash/region.objects"], apart := false, laid := [("whitewash/region.objects", laid_whitewash_region_objects)], narrowed := true }
def WlogHomeUptoSaid : Prop := wlogHomeUptoRow.holds Tryd.pinned (OpenSpec.upto wlogHomeSpec)

end Rows
end Go.Proofs.YthigfjelgbdcfaaDoor
