/- The table of the kinds' objects, read out of the row's condition, and a world that meets it. -/
import Derived.Test.YthigfjelgbdcfaaDoorRows
import Derived.Test.YthigfjelgbdcfaaDoorGOpen
import Derived.LaidMore
import Derived.LaidLaws
import Derived.MakeChecks
import Derived.SizedLaws
import Derived.ProofKit

set_option linter.unusedSimpArgs false
set_option linter.unusedVariables false

/-! The table of the kinds' objects, read out of the row's condition; a world that meets it. -/
namespace Go.Proofs.YthigfjelgbdcfaaDoor
open Go.ChangeShapes Go.WideShapes Go.ChangeAt Go.RowKit Go.Deep

theorem own : ownKnob Tryd.prog.godebug = none := by kernel_rfl
theorem gObj : Tryd.prog.globalNamed "whitewash/region.objects" = some 0 := by kernel_rfl
theorem tObj : (Tryd.prog.globals[0]?).map (·.type) = some 138 := by kernel_rfl

section
variable {H : Type} {enc : TypeId × Value → H} {P : Program} {w : World} {base : Nat} {sp : Nat → Bool} {held : Bool}
theorem two_data {t : TypeId} {f0 f1 : Field} {fuel : Nat} {k0 k1 : IntKind} {z0 z1 : Int} {cs : List Value} {p : List MemPlace} (ht : P.underlying t = some (.struct #[f0, f1])) (hone : oneCellFields P #[f0, f1] = true)
    (h0 : P.underlying f0.type = some (.int k0)) (h1 : P.underlying f1.type = some (.int k1)) (h : DataW.trod enc P w base sp held fuel t cs = some (.agg [.lit (.int k0 z0), .lit (.int k1 z1)], p)) :
    cs[0]? = some (.int k0 z0) ∧ cs[1]? = some (.int k1 z1) := by
  obtain ⟨xs, m, rfl, hx, _, hn, hi⟩ := DataW.trod_struct ht h
  obtain ⟨o0, c0⟩ := hone_of hone 0 f0 rfl
  obtain ⟨o1, c1⟩ := hone_of hone 1 f1 rfl
  simp only [Prod.mk.injEq, DataW.agg.injEq] at hx
  match xs, hx.1 with
  | [x0, x1], hx1 =>
    simp only [List.map_cons, List.map_nil, List.cons.injEq] at hx1
    have a0 := hi 0 f0 rfl
    have a1 := hi 1 f1 rfl
    rw [o0, c0] at a0
    rw [o1, c1] at a1
    obtain ⟨n0, e1, e2, _⟩ := DataW.trod_int h0 (show DataW.trod enc P w base sp held m f0.type _ = some x0 from a0)
    obtain ⟨n1, g1, g2, _⟩ := DataW.trod_int h1 (show DataW.trod enc P w base sp held m f1.type _ = some x1 from a1)
    rw [e2, g2] at hx1
    simp only [DataW.lit.injEq, Lit.int.injEq] at hx1
    obtain ⟨⟨_, rfl⟩, ⟨_, rfl⟩, _⟩ := hx1
    exact ⟨one_of_take e1, one_of_take g1⟩
end

theorem two_at {cs : List Value} {c : Nat} {v u : Value} (h : ((cs.drop c).take 2)[0]? = some v ∧ ((cs.drop c).take 2)[1]? = some u) : cs[c]? = some v ∧ cs[c + 1]? = some u := by
  obtain ⟨h1, h2⟩ := h
  simp [List.getElem?_take, List.getElem?_drop] at h1 h2
  exact ⟨h1, h2⟩

theorem objs_of_laid {W : World} (h : laidMet Tryd.prog [("whitewash/region.objects", Rows.laid_whitewash_region_objects)] W) : Objs W := by
  obtain ⟨ps, ⟨g, t, cs, fuel, p, q, hg, ht, hvar, hd, _, _⟩, _, _⟩ := h
  obtain rfl := Option.some.inj (gObj.symm.trans hg)
  obtain rfl := Option.some.inj (tObj.symm.trans ht)
  have hcell := World.var?_cell hg hvar
  obtain ⟨xs, m, rfl, hx, hlen, hn, hi⟩ := DataW.trod_array Tryd.underlying138 hd
  simp only [Prod.mk.injEq, Rows.laid_whitewash_region_objects, DataW.agg.injEq] at hx
  have hc : Tryd.prog.cellsOf 137 = 2 := by kernel_rfl
  rw [hc] at hi
  have one : ∀ (i : Nat) (z0 z1 : Int), i < 6 → (xs.map (·.1))[i]? = some (.agg [.lit (.int .i64 z0), .lit (.int .i64 z1)]) → cs.toList[i * 2]? = some (.int .i64 z0) ∧ cs.toList[i * 2 + 1]? = some (.int .i64 z1) := by
    intro i z0 z1 hi6 hxi
    rw [List.getElem?_map, Option.map_eq_some_iff] at hxi
    obtain ⟨⟨d, p⟩, hxi, hd0⟩ := hxi
    obtain rfl : d = _ := hd0
    exact two_at (two_data Tryd.underlying137 (by kernel_rfl) Tryd.underlying3 Tryd.underlying3 ((hi i hi6).trans hxi))
  rw [← hx.1] at one
  have h0 := one 0 _ _ (by omega) rfl
  have h1 := one 1 _ _ (by omega) rfl
  have h2 := one 2 _ _ (by omega) rfl
  have h3 := one 3 _ _ (by omega) rfl
  have h4 := one 4 _ _ (by omega) rfl
  have h5 := one 5 _ _ (by omega) rfl
  simp only [Array.getElem?_toList, Nat.zero_mul, Nat.one_mul, Nat.reduceMul, Nat.reduceAdd] at h0 h1 h2 h3 h4 h5
  refine ⟨World.block_lt_of_cell? W ⟨0, 0, none⟩ ((hcell 0).trans h0.1), fun j hj => ?_⟩
  rw [hcell j]
  match j, hj with
  | 0, _ => exact h0.1
  | 1, _ => exact h0.2
  | 2, _ => exact h1.1
  | 3, _ => exact h1.2
  | 4, _ => exact h2.1
  | 5, _ => exact h2.2
  | 6, _ => exact h3.1
  | 7, _ => exact h3.2
  | 8, _ => exact h4.1
  | 9, _ => exact h4.2
  | 10, _ => exact h5.1
  | 11, _ => exact h5.2
  | j + 12, hj => omega

def objCells : Array Value := #[.int .i64 0, .int .i64 0, .int .i64 1, .int .i64 0, .int .i64 1, .int .i64 2, .int .i64 1, .int .i64 4, .int .i64 2, .int .i64 4, .int .i64 9, .int .i64 1]
noncomputable def laidWorld (os : Os) : World :=
  { World.holding Tryd.prog os ⟨#[], #[], []⟩ with heap := (World.holding Tryd.prog os ⟨#[], #[], []⟩).heap.modify 0 fun
      | .cells _ t frozen => .cells objCells t frozen
      | o => o }
theorem laidWorld_met (os : Os) (args : Array Value) : laidMet Tryd.prog [("whitewash/region.objects", Rows.laid_whitewash_region_objects)] ((laidWorld os).forCall (fun _ _ => 0) ⟨#[], args, []⟩).memory :=
  laidMet_of_run' 8 (by kernel_rfl) (by kernel_rfl)

end Go.Proofs.YthigfjelgbdcfaaDoor
