/- Whatever the input, WlogTells returns true and each argument reads as it read before, if region's table of objects reads as laid. -/
import Derived.Test.YthigfjelgbdcfaaDoorGObj
import Derived.ChangeOld
import Derived.Carry

set_option linter.unusedSimpArgs false
set_option linter.unusedVariables false

/-! The row of WlogTells: whatever the input, the law returns true, and each argument reads as it did. -/
namespace Go.Proofs.YthigfjelgbdcfaaDoor
open Go.ChangeShapes Go.WideShapes Go.ChangeAt Go.RowKit Go.Deep Go.Joins

theorem laidOut : laidOutB Tryd.prog = true := by kernel_rfl

section
variable {H : Type} {enc : TypeId × Value → H} {P : Program} {w : World} {base : Nat} {sp : Nat → Bool} {held : Bool}
theorem slice_form {t e : TypeId} {fuel : Nat} {c : Value} {x : DataW H × List MemPlace} (ht : P.underlying t = some (.slice e)) (h : DataW.trod enc P w base sp held fuel t [c] = some x) : ∃ a n cap, c = .slice a n cap := by
  rcases open_slice ht h with ⟨h0, _⟩ | ⟨a', n', cap', m, f, D, Pl, h0, _⟩
  · simp at h0
    exact ⟨_, _, _, h0⟩
  · simp at h0
    exact ⟨_, _, _, h0⟩
theorem open_box {r : Reach} {b0 : Nat} {t e : TypeId} {f0 : Field} {v : Value} {d : DataW H} {p : List MemPlace} (ht : P.underlying t = some (.struct #[f0])) (hone : oneCellFields P #[f0] = true) (hC : P.cellsOf t = 1) (hs : P.underlying f0.type = some (.slice e))
    (hv : Value.okWide P w r b0 t v) (h : DataW.Trod enc P w base sp held t v d p) : ∃ a n cap, v = .agg #[.slice a n cap] ∧ ∃ f x, DataW.trod enc P w base sp held f f0.type [.slice a n cap] = some x := by
  obtain ⟨cs, rfl, hsz⟩ := okWide_struct ht hv
  obtain ⟨l⟩ := cs
  rw [hC] at hsz
  obtain ⟨c0, rfl⟩ : ∃ c0, l = [c0] := by
    match l, hsz with
    | [c0], _ => exact ⟨c0, rfl⟩
  obtain ⟨fuel, hf⟩ := h
  obtain ⟨xs, m, rfl, _, _, hn, hi⟩ := DataW.trod_struct ht hf
  have hn' : xs.length = 1 := hn
  obtain ⟨o0, c1⟩ := hone_of hone 0 f0 rfl
  have a0 := hi 0 f0 rfl
  rw [o0, c1, List.getElem?_eq_getElem (by omega)] at a0
  have a1 : DataW.trod enc P w base sp held m f0.type [c0] = some _ := a0
  obtain ⟨a, n, cap, rfl⟩ := slice_form hs a1
  exact ⟨a, n, cap, rfl, m, _, a1⟩
theorem three_ints {t e : TypeId} {v : Value} {d : DataW H} {p : List MemPlace} (ht : P.underlying t = some (.array 3 e)) (he : P.underlying e = some (.int .i64)) (hc : P.cellsOf e = 1) (hct : P.cellsOf t = 3)
    (h : DataW.Trod enc P w base sp held t v d p) : ∃ n0 n1 n2, v = .agg #[.int .i64 n0, .int .i64 n1, .int .i64 n2] ∧ I64 n0 ∧ I64 n1 ∧ I64 n2 := by
  obtain ⟨fuel, hf⟩ := h
  have hl : v.cells.toList.length = 3 := by
    obtain ⟨_, _, _, _, hl, _⟩ := DataW.trod_array ht hf
    rw [hl, hct]
  have hi := arr_ints ht he hc hf
  cases v <;> simp [Value.cells] at hl
  rename_i cs
  obtain ⟨l⟩ := cs
  obtain ⟨n0, e0, w0⟩ := hi 0 (by omega)
  obtain ⟨n1, e1, w1⟩ := hi 1 (by omega)
  obtain ⟨n2, e2, w2⟩ := hi 2 (by omega)
  match l, hl with
  | [c0, c1, c2], _ =>
    simp [Value.cells] at e0 e1 e2
    subst e0 e1 e2
    exact ⟨n0, n1, n2, rfl, bounds_i64 w0, bounds_i64 w1, bounds_i64 w2⟩
end

set_option maxRecDepth 100000 in
set_option maxHeartbeats 4000000 in
theorem wlogTells_lifted (os : Os) (started : os.Started) (H : Type) (enc : TypeId × Value → H) :
    ReturnsInHanded {} Tryd.checked os 3 .any (fun w args => (Rows.wlogTellsSpec.pre enc Tryd.prog Tryd.f3 [] false w args ∧ laidMet Tryd.prog [("whitewash/region.objects", Rows.laid_whitewash_region_objects)] w) ∧ sizedMet enc Tryd.prog Tryd.f3 (OpenSpec.ofChange Rows.wlogTellsSpec) false w args)
      (Rows.wlogTellsSpec.post enc Tryd.prog Tryd.f3 false true false false) := by
  refine returnsInHanded_of_change_and (C := Tryd.checked) (X := fun w _ => laidMet Tryd.prog [("whitewash/region.objects", Rows.laid_whitewash_region_objects)] w) (fun _ _ _ hh h => h.of_heap hh) own started (by kernel_rfl) Tryd.func3
    (ChangeSpec.witness_at (enc := enc) (C := Tryd.checked) (os := os) (X := fun w _ => laidMet Tryd.prog [("whitewash/region.objects", Rows.laid_whitewash_region_objects)] w) false (laidWorld os)
      #[.agg #[.int .i64 0, .int .i64 0, .int .i64 0], .agg #[.int .i64 0, .int .i64 0, .int .i64 0], .slice none 0 0, .slice none 0 0, .slice none 0 0, .int .i64 0, .int .u64 0, .int .i64 0, .int .i64 0, .slice none 0 0, .agg #[.slice none 0 0]]
      8 rfl (by kernel_rfl) (by kernel_rfl) (by kernel_rfl) (by kernel_rfl) (by kernel_rfl) (laidWorld_met os _)) ?_
  intro W base args ds gs before hval0 hW _ _ hL _
  have hval : ∀ (j : Nat) t v, Tryd.f3.params[j]? = some t → args[j]? = some v → Value.okWide Tryd.prog W .any base t v := hval0
  have hW' := hW
  obtain ⟨p, q, hA0, hV, rfl, hfz, hnd⟩ := hW
  have hA : DataW.TrodAll enc Tryd.prog W 0 (fun _ => true) true Tryd.f3.params.toList args.toList ds p := hA0
  rw [Tryd.params3] at hA hval
  obtain ⟨v0, vs0, d0, ds0, p0, q0, hargs, rfl, rfl, h0, r0⟩ := trodAll_cons hA
  obtain ⟨v1, vs1, d1, ds1, p1, q1, rfl, rfl, rfl, h1, r1⟩ := trodAll_cons r0
  obtain ⟨v2, vs2, d2, ds2, p2, q2, rfl, rfl, rfl, h2, r2⟩ := trodAll_cons r1
  obtain ⟨v3, vs3, d3, ds3, p3, q3, rfl, rfl, rfl, h3, r3⟩ := trodAll_cons r2
  obtain ⟨v4, vs4, d4, ds4, p4, q4, rfl, rfl, rfl, h4, r4⟩ := trodAll_cons r3
  obtain ⟨v5, vs5, d5, ds5, p5, q5, rfl, rfl, rfl, h5, r5⟩ := trodAll_cons r4
  obtain ⟨v6, vs6, d6, ds6, p6, q6, rfl, rfl, rfl, h6, r6⟩ := trodAll_cons r5
  obtain ⟨v7, vs7, d7, ds7, p7, q7, rfl, rfl, rfl, h7, r7⟩ := trodAll_cons r6
  obtain ⟨v8, vs8, d8, ds8, p8, q8, rfl, rfl, rfl, h8, r8⟩ := trodAll_cons r7
  obtain ⟨v9, vs9, d9, ds9, p9, q9, rfl, rfl, rfl, h9, r9⟩ := trodAll_cons r8
  obtain ⟨v10, vs10, d10, ds10, p10, q10, rfl, rfl, rfl, h10, r10⟩ := trodAll_cons r9
  obtain ⟨rfl, rfl, rfl⟩ := trodAll_nil r10
  obtain rfl : args = #[v0, v1, v2, v3, v4, v5, v6, v7, v8, v9, v10] := by cases args; simp_all
  obtain ⟨rfl, rfl⟩ := trodVars_none hV
  have ho := objs_of_laid hL
  have k0 := h0
  have k1 := h1
  have k2 := h2
  have k3 := h3
  have k4 := h4
  have k9 := h9
  have k10 := h10
  have lt0 : ∀ x ∈ p0, x.block < W.heap.size := by obtain ⟨m, hm⟩ := k0; exact DataW.trod_lt m _ _ _ hm
  have lt1 : ∀ x ∈ p1, x.block < W.heap.size := by obtain ⟨m, hm⟩ := k1; exact DataW.trod_lt m _ _ _ hm
  have lt2 : ∀ x ∈ p2, x.block < W.heap.size := by obtain ⟨m, hm⟩ := k2; exact DataW.trod_lt m _ _ _ hm
  have lt3 : ∀ x ∈ p3, x.block < W.heap.size := by obtain ⟨m, hm⟩ := k3; exact DataW.trod_lt m _ _ _ hm
  have lt4 : ∀ x ∈ p4, x.block < W.heap.size := by obtain ⟨m, hm⟩ := k4; exact DataW.trod_lt m _ _ _ hm
  have lt9 : ∀ x ∈ p9, x.block < W.heap.size := by obtain ⟨m, hm⟩ := k9; exact DataW.trod_lt m _ _ _ hm
  have lt10 : ∀ x ∈ p10, x.block < W.heap.size := by obtain ⟨m, hm⟩ := k10; exact DataW.trod_lt m _ _ _ hm
  obtain ⟨n0, n1, n2, rfl, b0, b1, b2⟩ := three_ints Tryd.underlying22 Tryd.underlying3 (by kernel_rfl) (by kernel_rfl) h0
  obtain ⟨c0, c1, c2, y0, y1, y2, nf, rfl, _, _, g0, g1, g2⟩ := open_agg3 Tryd.underlying24 (by kernel_rfl) (by kernel_rfl) (hval 1 24 v1 rfl rfl) h1
  obtain ⟨ko, e1, _, _⟩ := DataW.trod_int Tryd.underlying3 g0
  obtain ⟨po, e2, _, _⟩ := DataW.trod_int Tryd.underlying3 g1
  obtain ⟨co, e3, _, _⟩ := DataW.trod_int Tryd.underlying3 g2
  obtain rfl : c0 = .int .i64 ko := by simpa using e1
  obtain rfl : c1 = .int .i64 po := by simpa using e2
  obtain rfl : c2 = .int .i64 co := by simpa using e3
  obtain ⟨ar, nr, cr, rfl⟩ := okWide_slice Tryd.underlying25 (hval 2 25 v2 rfl rfl)
  obtain ⟨ay, na, cay, rfl⟩ := okWide_slice Tryd.underlying26 (hval 3 26 v3 rfl rfl)
  obtain ⟨aw, nw, cw, rfl⟩ := okWide_slice Tryd.underlying27 (hval 4 27 v4 rfl rfl)
  obtain ⟨at_, rfl, rfl, rfl, w5⟩ := open_int Tryd.underlying3 (hval 5 3 v5 rfl rfl) h5
  obtain ⟨x_, rfl, rfl, rfl, w6⟩ := open_int Tryd.underlying28 (hval 6 28 v6 rfl rfl) h6
  obtain ⟨p_, rfl, rfl, rfl, w7⟩ := open_int Tryd.underlying3 (hval 7 3 v7 rfl rfl) h7
  obtain ⟨i_, rfl, rfl, rfl, w8⟩ := open_int Tryd.underlying3 (hval 8 3 v8 rfl rfl) h8
  obtain ⟨ae, ne, ce, rfl⟩ := okWide_slice Tryd.underlying29 (hval 9 29 v9 rfl rfl)
  have kv10 := hval 10 32 v10 rfl rfl
  obtain ⟨f2, h2⟩ := h2
  obtain ⟨hr, hnr⟩ := open_rows Tryd.underlying25 Tryd.underlying51 Tryd.underlying3 (by kernel_rfl) (by kernel_rfl) (by omega) h2
  obtain ⟨f9, h9⟩ := h9
  obtain ⟨he, hne⟩ := open_rows Tryd.underlying29 Tryd.underlying22 Tryd.underlying3 (by kernel_rfl) (by kernel_rfl) (by omega) h9
  obtain ⟨f3, h3⟩ := h3
  obtain ⟨Y, hY, hYw, hcay, hna, hsY⟩ := open_pairs Tryd.underlying26 Tryd.underlying71 (by kernel_rfl) (by kernel_rfl) Tryd.underlying3 Tryd.underlying28 h3
  obtain ⟨f4, h4⟩ := h4
  obtain ⟨WS, hWS, hWw, hcw, hnw, hsW⟩ := open_words Tryd.underlying27 Tryd.underlying28 (by kernel_rfl) h4
  obtain ⟨am, nm, cm, rfl, fm, xm, hm⟩ := open_box Tryd.underlying32 (by kernel_rfl) (by kernel_rfl) Tryd.underlying30 kv10 h10
  obtain ⟨M, hM, hMw, hcm, hnm, hsM⟩ := open_pairs Tryd.underlying30 Tryd.underlying68 (by kernel_rfl) (by kernel_rfl) Tryd.underlying28 Tryd.underlying3 hm
  have SM : Sl W (.slice am nm cm) nm (cls M) := ⟨am, cm, rfl, fun hn => by
    obtain ⟨b, o, rfl, hb, hh⟩ := hsM hn
    exact ⟨b, o, rfl, hb, sl_cls hh⟩⟩
  have SY : Sl W (.slice ay na cay) na (wrs Y) := ⟨ay, cay, rfl, fun hn => by
    obtain ⟨b, o, rfl, hb, hh⟩ := hsY hn
    exact ⟨b, o, rfl, hb, sl_wrs hh⟩⟩
  refine (law_true n0 n1 n2 at_ x_ p_ i_ ko po co nm na nw nr ne cm cay cw cr ce am ay aw ar ae M Y WS W ho b0 b1 b2 (bounds_i64 w5) (bounds_i64 w8) (bounds_i64 w7) (bounds_u64 w6) SM hM (fun y hy => bounds_u64 (hMw y hy).1) hnm hcm SY hY (fun y hy => (hYw y hy).1) hna hcay hsW hWS hWw hnw hcw hr hnr he).mono fun e W' ⟨he, bel⟩ => ?_
  subst he
  have back : ∀ {t : TypeId} {v : Value} {d : DataW H} {p : List MemPlace} (hr : Tryd.prog.readableRec t = true) (hrow : t < Tryd.prog.types.size) (k : DataW.Trod enc Tryd.prog W 0 (fun _ => true) true t v d p) (lt : ∀ x ∈ p, x.block < W.heap.size), DataW.Trod enc Tryd.prog W' 0 (fun b => decide (b < W.heap.size)) true t v d p :=
    fun hr hrow k lt => Below.trod laidOut hr hrow k bel lt
  exact ⟨_, rfl, _, _, _, [], _, [], hW', trodAll_mk1 (shut_bool Tryd.underlying4 _), (trodAll_cons_mk (back (by kernel_rfl) (of_decide_eq_true (by kernel_rfl)) k0 lt0) (trodAll_cons_mk (back (by kernel_rfl) (of_decide_eq_true (by kernel_rfl)) k1 lt1) (trodAll_cons_mk (back (by kernel_rfl) (of_decide_eq_true (by kernel_rfl)) k2 lt2)
    (trodAll_cons_mk (back (by kernel_rfl) (of_decide_eq_true (by kernel_rfl)) k3 lt3) (trodAll_cons_mk (back (by kernel_rfl) (of_decide_eq_true (by kernel_rfl)) k4 lt4) (trodAll_cons_mk (shut_int Tryd.underlying3 w5) (trodAll_cons_mk (shut_int Tryd.underlying28 w6) (trodAll_cons_mk (shut_int Tryd.underlying3 w7) (trodAll_cons_mk (shut_int Tryd.underlying3 w8)
    (trodAll_cons_mk (back (by kernel_rfl) (of_decide_eq_true (by kernel_rfl)) k9 lt9) (trodAll_cons_mk (back (by kernel_rfl) (of_decide_eq_true (by kernel_rfl)) k10 lt10) trodAll_mk0))))))))))), rfl, bel.frame _, fun h => by cases h⟩

theorem wlogTells_holds : Rows.WlogTellsSaid :=
  OpenClaim.holds_of_wide 3 Tryd.f3 rfl rfl rfl rfl rfl rfl rfl ⟨rfl, rfl, rfl, rfl, rfl⟩ rfl rfl rfl rfl rfl (by kernel_rfl) Tryd.func3 (by kernel_rfl)
    (of_decide_eq_true (by kernel_rfl)) (by unfold Func.isWrapper; first | (rw [if_pos (by decide +kernel)]; kernel_rfl) | (rw [if_neg (by decide +kernel)]; exact ⟨rfl, rfl⟩))
    (fun os started H enc _ => wlogTells_lifted os started H enc)

end Go.Proofs.YthigfjelgbdcfaaDoor
