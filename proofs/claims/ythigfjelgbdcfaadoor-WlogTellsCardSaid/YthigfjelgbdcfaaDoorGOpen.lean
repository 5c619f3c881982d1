/- How the arguments' values read: slices of pairs of numbers, of rows of numbers, of words. -/
import Derived.Test.YthigfjelgbdcfaaDoorGLwP8
import Derived.OpenShut
import Derived.Lib.SmallJoins
import Derived.Deep.Slices
import Derived.Deep.Fields
import Derived.ChangeSame

set_option linter.unusedSimpArgs false
set_option linter.unusedVariables false

/-! The arguments opened: what a slice of number pairs, of rows of numbers, of words reads as, cell by cell. -/
namespace Go.Proofs.YthigfjelgbdcfaaDoor
open Go.RowKit Go.ChangeShapes Go.WideShapes Go.Deep

theorem list_of {α : Type} (R : Nat → α → Prop) : ∀ (n : Nat), (∀ i, i < n → ∃ x, R i x) → ∃ l : List α, l.length = n ∧ ∀ i x, l[i]? = some x → R i x
  | 0, _ => ⟨[], rfl, by simp⟩
  | n + 1, h => by
    obtain ⟨l, hl, hp⟩ := list_of R n (fun i hi => h i (by omega))
    obtain ⟨x, hx⟩ := h n (by omega)
    refine ⟨l ++ [x], by simp [hl], fun i y hy => ?_⟩
    rcases Nat.lt_trichotomy i n with hi | hi | hi
    · rw [List.getElem?_append_left (by omega)] at hy
      exact hp i y hy
    · subst hi
      rw [List.getElem?_append_right (by omega), hl] at hy
      simp at hy
      subst hy
      exact hx
    · rw [List.getElem?_eq_none (by simp; omega)] at hy
      cases hy

theorem addr_add (b o n : Nat) : (⟨b, o, none⟩ : Addr).add n = ⟨b, o + n, none⟩ := by
  unfold Addr.add
  split
  · subst_vars; rfl
  · rfl

theorem one_of_take {cs : List Value} {j : Nat} {v : Value} (h : (cs.drop j).take 1 = [v]) : cs[j]? = some v := by
  have := congrArg (fun l : List Value => l[0]?) h
  simpa [List.getElem?_take, List.getElem?_drop] using this

section
variable {H : Type} {enc : TypeId × Value → H} {P : Program} {w : World} {base : Nat} {sp : Nat → Bool} {held : Bool}

theorem arr_ints {t e : TypeId} {n fuel : Nat} {k : IntKind} {cs : List Value} {x : DataW H × List MemPlace} (ht : P.underlying t = some (.array n e)) (he : P.underlying e = some (.int k)) (hc : P.cellsOf e = 1)
    (h : DataW.trod enc P w base sp held fuel t cs = some x) : ∀ j, j < n → ∃ z, cs[j]? = some (.int k z) ∧ (Lit.int k z).wf = true := by
  obtain ⟨xs, m, rfl, _, _, hn, hi⟩ := DataW.trod_array ht h
  intro j hj
  have h1 := hi j hj
  rw [hc, Nat.mul_one, List.getElem?_eq_getElem (by omega)] at h1
  obtain ⟨z, e1, _, e3⟩ := DataW.trod_int he h1
  exact ⟨z, one_of_take e1, e3⟩

theorem two_ints {t : TypeId} {f0 f1 : Field} {fuel : Nat} {k0 k1 : IntKind} {cs : List Value} {x : DataW H × List MemPlace} (ht : P.underlying t = some (.struct #[f0, f1])) (hone : oneCellFields P #[f0, f1] = true)
    (h0 : P.underlying f0.type = some (.int k0)) (h1 : P.underlying f1.type = some (.int k1)) (h : DataW.trod enc P w base sp held fuel t cs = some x) :
    ∃ z0 z1, cs[0]? = some (.int k0 z0) ∧ (Lit.int k0 z0).wf = true ∧ cs[1]? = some (.int k1 z1) ∧ (Lit.int k1 z1).wf = true := by
  obtain ⟨xs, m, rfl, _, _, hn, hi⟩ := DataW.trod_struct ht h
  obtain ⟨o0, c0⟩ := hone_of hone 0 f0 rfl
  obtain ⟨o1, c1⟩ := hone_of hone 1 f1 rfl
  have hn' : xs.length = 2 := hn
  have a0 := hi 0 f0 rfl
  have a1 := hi 1 f1 rfl
  rw [o0, c0, List.getElem?_eq_getElem (by omega)] at a0
  rw [o1, c1, List.getElem?_eq_getElem (by omega)] at a1
  obtain ⟨z0, e1, _, e3⟩ := DataW.trod_int h0 a0
  obtain ⟨z1, g1, _, g3⟩ := DataW.trod_int h1 a1
  exact ⟨z0, z1, one_of_take e1, e3, one_of_take g1, g3⟩

/-- a slice, as its elements' cells -/
theorem open_elems {t e : TypeId} {c fuel n cap : Nat} {a : Option Addr} {x : DataW H × List MemPlace} (ht : P.underlying t = some (.slice e)) (hc : P.cellsOf e = c) (hc0 : 0 < c)
    (h : DataW.trod enc P w base sp held fuel t [.slice a n cap] = some x) :
    n ≤ cap ∧ cap ≤ 9223372036854775807 ∧ (0 < n → ∃ b o, a = some ⟨b, o, none⟩ ∧ ∀ i, i < n → ∃ cs f y, DataW.trod enc P w base sp held f e cs = some y ∧ ∀ j v, cs[j]? = some v → j < c → b < w.heap.size ∧ w.cell? ⟨b, o + (i * c + j), none⟩ = some v) := by
  rcases open_slice ht h with ⟨h0, _⟩ | ⟨a', n', cap', m, f, D, Pl, h0, _, hl, hm, hmm, _, hi⟩
  · simp at h0
    obtain ⟨rfl, rfl, rfl⟩ := h0
    exact ⟨Nat.le_refl _, by omega, fun h => by omega⟩
  · simp at h0
    obtain ⟨rfl, rfl, rfl⟩ := h0
    have hnm : n ≤ m := by rw [hmm]; split <;> omega
    refine ⟨hl, hm, fun hn => ?_⟩
    have key : ∀ i, i < n → ∃ cs f y, DataW.trod enc P w base sp held f e cs = some y ∧ cs.length = c ∧ ∀ j v, cs[j]? = some v → j < c → w.cell? ((a'.add (i * c)).add j) = some v := by
      intro i hi'
      obtain ⟨cs, hcs, hy⟩ := hi i (by omega)
      rw [hc] at hcs
      obtain ⟨_, hlen, hat⟩ := World.cells?_some hcs
      exact ⟨cs, f, _, hy, hlen, fun j v hj hjc => (hat j hjc).trans hj⟩
    obtain ⟨cs0, f0, y0, _, hl0, hk0⟩ := key 0 hn
    have hsp := World.cell?_spot (hk0 0 _ (List.getElem?_eq_getElem (by omega)) hc0)
    obtain ⟨b, o, s⟩ := a'
    have hs0 : s = none := by simpa [Addr.add] using hsp
    subst hs0
    refine ⟨b, o, rfl, fun i hi' => ?_⟩
    obtain ⟨cs, f', y, hy, _, hk⟩ := key i hi'
    refine ⟨cs, f', y, hy, fun j v hj hjc => ?_⟩
    have h1 := hk j v hj hjc
    rw [addr_add, addr_add, Nat.add_assoc] at h1
    exact ⟨World.block_lt_of_cell? w ⟨b, _, none⟩ h1, h1⟩

theorem open_rows {t e i3 : TypeId} {s fuel n cap : Nat} {a : Option Addr} {x : DataW H × List MemPlace} (ht : P.underlying t = some (.slice e)) (he : P.underlying e = some (.array s i3)) (hi : P.underlying i3 = some (.int .i64)) (hc1 : P.cellsOf i3 = 1) (hc : P.cellsOf e = s) (hs : 0 < s)
    (h : DataW.trod enc P w base sp held fuel t [.slice a n cap] = some x) : SlI s w (.slice a n cap) n ∧ n ≤ 9223372036854775807 := by
  obtain ⟨h1, h2, h3⟩ := open_elems ht hc hs h
  refine ⟨⟨a, cap, rfl, fun hn => ?_⟩, by omega⟩
  obtain ⟨b, o, rfl, hk⟩ := h3 hn
  have one : ∀ i, i < n → ∀ j, j < s → ∃ z, (b < w.heap.size ∧ w.cell? ⟨b, o + (i * s + j), none⟩ = some (.int .i64 z)) ∧ I64 z := by
    intro i hi' j hj
    obtain ⟨cs, f, y, hy, hcell⟩ := hk i hi'
    obtain ⟨z, hz, hwf⟩ := arr_ints he hi hc1 hy j hj
    exact ⟨z, hcell j _ hz hj, bounds_i64 hwf⟩
  refine ⟨b, o, rfl, (one 0 hn 0 hs).choose_spec.1.1, fun j hj => ?_⟩
  have hq : j / s < n := Nat.div_lt_of_lt_mul (by rw [Nat.mul_comm]; exact hj)
  obtain ⟨z, ⟨_, hz⟩, hw⟩ := one (j / s) hq (j % s) (Nat.mod_lt _ hs)
  rw [Nat.div_add_mod' j s] at hz
  exact ⟨z, hz, hw⟩

theorem open_pairs {t e : TypeId} {f0 f1 : Field} {k0 k1 : IntKind} {fuel n cap : Nat} {a : Option Addr} {x : DataW H × List MemPlace} (ht : P.underlying t = some (.slice e)) (he : P.underlying e = some (.struct #[f0, f1])) (hone : oneCellFields P #[f0, f1] = true) (hc : P.cellsOf e = 2)
    (h0 : P.underlying f0.type = some (.int k0)) (h1 : P.underlying f1.type = some (.int k1)) (h : DataW.trod enc P w base sp held fuel t [.slice a n cap] = some x) :
    ∃ L : List (Int × Int), L.length = n ∧ (∀ y ∈ L, (Lit.int k0 y.1).wf = true ∧ (Lit.int k1 y.2).wf = true) ∧ n ≤ cap ∧ n ≤ 9223372036854775807 ∧
      (0 < n → ∃ b o, a = some ⟨b, o, none⟩ ∧ b < w.heap.size ∧ ∀ (i : Nat) (y : Int × Int), L[i]? = some y → w.cell? ⟨b, o + 2 * i, none⟩ = some (.int k0 y.1) ∧ w.cell? ⟨b, o + (2 * i + 1), none⟩ = some (.int k1 y.2)) := by
  obtain ⟨g1, g2, g3⟩ := open_elems ht hc (by omega) h
  by_cases hn : 0 < n
  · obtain ⟨b, o, rfl, hk⟩ := g3 hn
    obtain ⟨L, hL, hp⟩ := list_of (fun i (y : Int × Int) => ((Lit.int k0 y.1).wf = true ∧ (Lit.int k1 y.2).wf = true) ∧ b < w.heap.size ∧ w.cell? ⟨b, o + 2 * i, none⟩ = some (.int k0 y.1) ∧ w.cell? ⟨b, o + (2 * i + 1), none⟩ = some (.int k1 y.2)) n (by
      intro i hi
      obtain ⟨cs, f, y, hy, hcell⟩ := hk i hi
      obtain ⟨z0, z1, c0, w0, c1, w1⟩ := two_ints he hone h0 h1 hy
      have a0 := hcell 0 _ c0 (by omega)
      have a1 := hcell 1 _ c1 (by omega)
      rw [Nat.mul_comm i 2] at a0 a1
      exact ⟨(z0, z1), ⟨w0, w1⟩, a0.1, a0.2, a1.2⟩)
    refine ⟨L, hL, fun y hy => ?_, g1, by omega, fun _ => ⟨b, o, rfl, ?_, fun i y hi => (hp i y hi).2.2⟩⟩
    · obtain ⟨i, hi, rfl⟩ := List.mem_iff_getElem.1 hy
      exact (hp i _ (List.getElem?_eq_getElem hi)).1
    · exact (hp 0 _ (List.getElem?_eq_getElem (by omega))).2.1
  · obtain rfl : n = 0 := by omega
    exact ⟨[], rfl, by simp, g1, by omega, fun h => by omega⟩

theorem open_words {t e : TypeId} {fuel n cap : Nat} {a : Option Addr} {x : DataW H × List MemPlace} (ht : P.underlying t = some (.slice e)) (he : P.underlying e = some (.int .u64)) (hc : P.cellsOf e = 1)
    (h : DataW.trod enc P w base sp held fuel t [.slice a n cap] = some x) : ∃ L : List Int, L.length = n ∧ WordsOk L ∧ n ≤ cap ∧ n ≤ 9223372036854775807 ∧ Sl w (.slice a n cap) n (u64s L) := by
  obtain ⟨g1, g2, g3⟩ := open_elems ht hc (by omega) h
  by_cases hn : 0 < n
  · obtain ⟨b, o, rfl, hk⟩ := g3 hn
    obtain ⟨L, hL, hp⟩ := list_of (fun i (y : Int) => (Lit.int .u64 y).wf = true ∧ b < w.heap.size ∧ w.cell? ⟨b, o + i, none⟩ = some (.int .u64 y)) n (by
      intro i hi
      obtain ⟨cs, f, y, hy, hcell⟩ := hk i hi
      obtain ⟨z, rfl, _, hw⟩ := DataW.trod_int he hy
      have a0 := hcell 0 _ rfl (by omega)
      rw [Nat.mul_one, Nat.add_zero] at a0
      exact ⟨z, hw, a0.1, a0.2⟩)
    refine ⟨L, hL, fun y hy => ?_, g1, by omega, _, cap, rfl, fun _ => ⟨b, o, rfl, ?_, fun j v hj => ?_⟩⟩
    · obtain ⟨i, hi, rfl⟩ := List.mem_iff_getElem.1 hy
      exact bounds_u64 (hp i _ (List.getElem?_eq_getElem hi)).1
    · exact (hp 0 _ (List.getElem?_eq_getElem (by omega))).2.1
    · simp only [u64s, List.getElem?_map, Option.map_eq_some_iff] at hj
      obtain ⟨y, hy, rfl⟩ := hj
      exact (hp j y hy).2.2
  · obtain rfl : n = 0 := by omega
    exact ⟨[], rfl, by simp [WordsOk], g1, by omega, a, cap, rfl, fun h => by omega⟩
end

theorem sl_wrs {w : World} {b o : Nat} {L : List (Int × Int)} (h : ∀ (i : Nat) (y : Int × Int), L[i]? = some y → w.cell? ⟨b, o + 2 * i, none⟩ = some (.int .i64 y.1) ∧ w.cell? ⟨b, o + (2 * i + 1), none⟩ = some (.int .u64 y.2)) : ∀ j v, (wrs L)[j]? = some v → w.cell? ⟨b, o + j, none⟩ = some v := by
  intro j v hj
  obtain ⟨hl, _⟩ := List.getElem?_eq_some_iff.1 hj
  rw [wrs_len] at hl
  have hy := List.getElem?_eq_getElem (show j / 2 < L.length by omega)
  obtain ⟨e0, e1⟩ := wrs_at L _ _ hy
  obtain ⟨c0, c1⟩ := h _ _ hy
  rcases (show j = 2 * (j / 2) ∨ j = 2 * (j / 2) + 1 by omega) with hh | hh
  · rw [← hh] at e0 c0
    exact c0.trans (e0.symm.trans hj)
  · rw [← hh] at e1 c1
    exact c1.trans (e1.symm.trans hj)
theorem sl_cls {w : World} {b o : Nat} {L : List (Int × Int)} (h : ∀ (i : Nat) (y : Int × Int), L[i]? = some y → w.cell? ⟨b, o + 2 * i, none⟩ = some (.int .u64 y.1) ∧ w.cell? ⟨b, o + (2 * i + 1), none⟩ = some (.int .i64 y.2)) : ∀ j v, (cls L)[j]? = some v → w.cell? ⟨b, o + j, none⟩ = some v := by
  intro j v hj
  obtain ⟨hl, _⟩ := List.getElem?_eq_some_iff.1 hj
  rw [cls_len] at hl
  have hy := List.getElem?_eq_getElem (show j / 2 < L.length by omega)
  obtain ⟨e0, e1⟩ := cls_at L _ _ hy
  obtain ⟨c0, c1⟩ := h _ _ hy
  rcases (show j = 2 * (j / 2) ∨ j = 2 * (j / 2) + 1 by omega) with hh | hh
  · rw [← hh] at e0 c0
    exact c0.trans (e0.symm.trans hj)
  · rw [← hh] at e1 c1
    exact c1.trans (e1.symm.trans hj)

end Go.Proofs.YthigfjelgbdcfaaDoor
