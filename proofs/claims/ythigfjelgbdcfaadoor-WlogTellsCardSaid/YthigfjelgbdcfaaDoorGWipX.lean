/- The contract of wlog's Wipe, whatever the input. -/
import Derived.Test.YthigfjelgbdcfaaDoorGLogW2
import Derived.Test.YthigfjelgbdcfaaDoorGCaught

set_option linter.unusedSimpArgs false
set_option linter.unusedVariables false

/-! Layer 16: Wipe, where it is done. -/
namespace Go.Proofs.YthigfjelgbdcfaaDoor
open Go.RowKit Go.Maps Go.Shelf

attribute [local go_sem] Oper.semAt_some

theorem owns_keep {W W' : World} {base : Nat} {e : TypeId} {size n : Nat} {v : Value} {xs : List Value} {row : Option Nat} (h : W.ownsRow base e size v n xs) (hg : W.grownBy W' row)
    (hr : ∀ r, row = some r → ∃ o : Obj, W.heap[r]? = some o ∧ o.isCells = false) : W'.ownsRow base e size v n xs := by
  refine ⟨h.1, ?_⟩
  rcases h.2 with h0 | ⟨g, cap, cur, rfl, h1, h2, h3⟩
  · exact .inl h0
  · exact .inr ⟨g, cap, cur, rfl, h1, blk_own h2 hg hr, h3⟩
theorem wf_keep {w W W' : World} {k p c r : Int} {a : Option Addr} {n cap : Nat} {row : Option Nat} (h : Wf w W k p c a n cap r) (hg : W.grownBy W' row) (hr : ∀ r, row = some r → w.heap.size ≤ r ∧ ∃ o : Obj, W.heap[r]? = some o ∧ o.isCells = false) : Wf w W' k p c a n cap r := by
  obtain ⟨⟨⟨⟨hB, b0⟩, b1⟩, b2⟩, b3⟩ := h
  have hn := fun r e => (hr r e).2
  exact ⟨⟨⟨⟨hB.grown hg hB.size (fun r e => (hr r e).1), blk_own b0 hg hn⟩, blk_own b1 hg hn⟩, blk_own b2 hg hn⟩, blk_own b3 hg hn⟩

/-- what stands while Wipe goes through the log: the frame's boxes, its memory's box, its memory -/
def WipI (w W : World) (k p c : Int) (a : Option Addr) (n cap bo g cp : Nat) (xs : List Value) : Prop :=
  (Wf w W k p c a n cap 0 ∧ W.heap[bo]? = some (memBox (some ⟨g, 0, none⟩) n cp)) ∧ W.ownsRow (w.heap.size + 1 + 1 + 1) 68 2 (.slice (some ⟨g, 0, none⟩) n cp) n xs
theorem wipI_keep {w W W' : World} {k p c : Int} {a : Option Addr} {n cap bo g cp : Nat} {xs : List Value} {row : Option Nat} (h : WipI w W k p c a n cap bo g cp xs) (hg : W.grownBy W' row) (hr : ∀ r, row = some r → w.heap.size ≤ r ∧ ∃ o : Obj, W.heap[r]? = some o ∧ o.isCells = false) : WipI w W' k p c a n cap bo g cp xs :=
  ⟨⟨wf_keep h.1.1 hg hr, blk_own h.1.2 hg (fun r e => (hr r e).2)⟩, owns_keep h.2 hg (fun r e => (hr r e).2)⟩
theorem wipI_call {w W W' : World} {k p c : Int} {a : Option Addr} {n cap bo g cp : Nat} {xs : List Value} (h : WipI w W k p c a n cap bo g cp xs) (hb : Below W.heap.size W W') : WipI w W' k p c a n cap bo g cp xs :=
  ⟨⟨wf_call h.1.1 hb, (hb.block _ (Array.getElem?_eq_some_iff.1 h.1.2).1).trans h.1.2⟩, owns_below h.2 hb⟩
/-- the words of an own memory can be read -/
theorem logAt_owns {W : World} {base g cp N f Ln : Nat} {ms : List (Int × Int)} (h : W.ownsRow base 68 2 (.slice (some ⟨g, 0, none⟩) N cp) N (cls ms)) (hm : ms.length = N) (hfl : f + Ln ≤ N) : LogAt g f Ln (fun i x => x = (ms.getD (f + i) (0, 0)).1) W := by
  intro i hi
  obtain ⟨x, hx⟩ : ∃ x, ms[f + i]? = some x := ⟨_, List.getElem?_eq_getElem (by omega)⟩
  refine ⟨x.1, ?_, by simp [List.getD, hx]⟩
  have := h.cells (g := g) rfl (2 * (f + i)) _ (cls_at _ _ _ hx).1
  rw [add_at] at this
  rw [Nat.mul_comm]
  simpa using this
theorem logAt_any {W : World} {g f Ln : Nat} {Ok : Nat → Int → Prop} (h : LogAt g f Ln Ok W) : LogAt g f Ln (fun _ _ => True) W := fun i hi => by
  obtain ⟨x, h1, _⟩ := h i hi
  exact ⟨x, h1, trivial⟩
theorem ko_below {W W' : World} (h : Below W.heap.size W W') : KeepsOthers W W' := ⟨h.size, fun k o hk _ => (h.block k (Array.getElem?_eq_some_iff.1 hk).1).trans hk⟩

/-- cells wiped, one by one -/
def wipeL (ms : List (Int × Int)) (l : List Int) : List (Int × Int) := l.foldl (fun m i => m.set i.toNat (0, 0)) ms
theorem wipeL_snoc (ms : List (Int × Int)) (l : List Int) (i : Int) : wipeL ms (l ++ [i]) = (wipeL ms l).set i.toNat (0, 0) := by simp [wipeL]
theorem wipeL_len (ms : List (Int × Int)) (l : List Int) : (wipeL ms l).length = ms.length := by
  induction l generalizing ms with
  | nil => rfl
  | cons i l ih => show (wipeL (ms.set i.toNat (0, 0)) l).length = _; rw [ih, List.length_set]
theorem wipeL_all (ms : List (Int × Int)) (f : Nat) : ∀ n : Nat, wipeL ms ((List.range n).map fun i : Nat => (f : Int) + (i : Int)) = wipeTo ms f n
  | 0 => rfl
  | n + 1 => by
    rw [List.range_succ, List.map_append, List.map_singleton, wipeL_snoc, wipeL_all ms f n, wipeTo]
    rw [show ((f : Int) + (n : Int)).toNat = f + n by omega]
theorem log_places {f Ln : Nat} {Ok : Nat → Int → Prop} {xs : List (InLog f Ln Ok)} (h : xs.length = Ln) (h1 : LogOk f Ln Ok xs) : xs.map (·.1.1) = (List.range Ln).map fun i : Nat => (f : Int) + (i : Int) := by
  refine List.ext_getElem? fun i => ?_
  rcases Nat.lt_or_ge i Ln with hi | hi
  · obtain ⟨x, hx⟩ : ∃ x, xs[i]? = some x := ⟨_, List.getElem?_eq_getElem (by omega)⟩
    rw [List.getElem?_map, List.getElem?_map, hx, List.getElem?_range hi]
    simp [(h1 i x hx).1]
  · rw [List.getElem?_eq_none (by simp; omega), List.getElem?_eq_none (by simp; omega)]
theorem logAt_put {W : World} {g f Ln l : Nat} {Ok : Nat → Int → Prop} {o o' : Obj} (h : LogAt g f Ln Ok W) (ho : W.heap[l]? = some o) (hc : o.isCells = false) : LogAt g f Ln Ok (W.putObj l o') := by
  intro i hi
  obtain ⟨x, h1, h2⟩ := h i hi
  refine ⟨x, ?_, h2⟩
  have hne : g ≠ l := by
    rintro rfl
    cases o with
    | cells c t f => simp [Obj.isCells] at hc
    | _ => simp [World.cell?, ho] at h1
  have : (W.putObj l o').heap[g]? = W.heap[g]? := World.putObj_heap_other hne
  unfold World.cell? at h1 ⊢
  simp only at h1 ⊢
  rw [this]
  exact h1
theorem keepC_put {S : Nat → Prop} {g f Ln : Nat} {Ok : Nat → Int → Prop} {W : World} {l : Nat} {o o' : Obj} (ho : W.heap[l]? = some o) (hc : o.isCells = false) : KeepC S (LogAt g f Ln Ok) W (W.putObj l o') :=
  ⟨KeepW.put W l o o' ho hc, fun h => logAt_put h ho hc⟩

theorem callsDIn_mono {F : Fence} {n : Nat} {P : Program} {f : FuncId} {args : Array Value} {u : FrameMode} {w : World} {R R' : Ending → FrameMode → World → Prop} (h : CallsDIn F n P f args u w R) (hR : ∀ e u w, R e u w → R' e u w) : CallsDIn F n P f args u w R' :=
  ⟨h.1, fun c cs hc hr => let ⟨e, u', w', fr, h1, h2⟩ := h.2 c cs hc hr; ⟨e, u', w', fr, hR _ _ _ h1, h2⟩⟩

set_option linter.unusedSimpArgs false in
set_option maxRecDepth 100000 in
set_option maxHeartbeats 2000000 in
theorem wWipe_ok (k p c q : Int) (a : Option Addr) (cap : Nat) (ms : List (Int × Int)) (N f Ln : Nat) (w : World) (ho : Objs w) (h : Fit k p c) (q0 : 0 ≤ q) (q1 : q < p) (hL : logN k p c = Ln) (hL1 : 1 ≤ Ln) (hf : atN k p c 3 q = f) (hfl : f + Ln ≤ N) (hms : ms.length = N) (hN : (N : Int) = sizeN k p c) (hs : Sl w (.slice a N cap) N (cls ms)) :
    Calls Tryd.prog 23 #[conf k p c, .agg #[.slice a N cap], .int .i64 q] w fun e w' => (∃ v, e = .returned (.tuple #[.agg #[v], .int .i64 0]) ∧ w'.ownsRow w.heap.size 68 2 v N (cls (wipeTo ms f Ln))) ∧ Below w.heap.size w w' := by
  have hNb : N ≤ 40000 := by have := sizeN_bd k p c; omega
  have CO : Hid (∀ w1, Below w.heap.size w w1 → Calls Tryd.prog 47 #[.slice a N cap] w1 fun e w' => ∃ v, e = .returned v ∧ w'.ownsRow w1.heap.size 68 2 v N (cls ms) ∧ Below w1.heap.size w1 w') := Lib.hid (fun w1 hb => clone _ ms N w1 hms (hs.below hb) (by omega))
  have CG : Hid (∀ w1 bm a1 c1, Below w.heap.size w w1 → w1.heap[bm]? = some (memBox a1 N c1) → Calls Tryd.prog 48 #[conf k p c, .pointer (some ⟨bm, 0, none⟩), .int .i64 q] w1 fun e w' => ∃ bf, e = .returned (.func (.func 61) #[] #[.pointer (some ⟨bf, 0, none⟩), .pointer (some ⟨w1.heap.size, 0, none⟩), .pointer (some ⟨w1.heap.size + 1, 0, none⟩)]) ∧ Lh w1 w' k p c bm bf (atN k p c 3 q) a1 N c1 ∧ w1.heap.size + 1 < bf) :=
    Lib.hid (fun w1 bm a1 c1 hb hm => wLog_ok k p c q bm a1 N c1 w1 (ho.below hb) hm h q0 q1 hN)
  have HO := Lib.hid ho
  have HF := Lib.hid h
  have HL := Lib.hid hL
  have HA := Lib.hid hf
  have HM := Lib.hid hms
  clear ho h hL hf hms hs q0 q1 hN
  refine (callsIn_wide (n := 4)).1 ?_
  refine callsIn_of_wp_marks Tryd.func23 rfl trivial ?_ rfl
  simp only [Tryd.ntmps23, List.size_toArray, List.length_cons, List.length_nil, Nat.reduceAdd, Nat.reduceSub, Array.replicate_succ, Array.replicate_zero, List.push_toArray, List.append_toArray, List.nil_append, List.cons_append]
  gi_wp2_with (first | (refine ⟨trivial, ?_⟩; gi_at_call 47; refine (callsIn_wide.2 (CO.out _ (wf_below (wf_start w k p c a N cap)))).mono ?_; rintro e wo ⟨v, rfl, hv, hbo⟩; obtain ⟨g, cp, rfl, hgb, hgl⟩ := World.ownsRow.form hv (by omega); have T1 := Lib.hid (wf_call (wf_start w k p c a N cap) hbo); have HV := Lib.hid hv; obtain ⟨c0, c1, c2, m0, r0, r1, f0, f1, hz⟩ := wf_cells T1.out; have hz1 : w.heap.size < wo.heap.size := (by omega); clear hbo hv) | (refine ⟨trivial, ?_⟩; gi_at_call 48; refine (callsIn_wide.2 (CG.out _ wo.heap.size (some ⟨g, 0, none⟩) cp (wf_below (wf_call T1.out (blk_alloc _ _))) (World.alloc_heap_new wo _))).mono ?_; rintro e wl ⟨bf, rfl, hbl, hbf⟩))
  have hBl : Below (wo.alloc (memBox (some ⟨g, 0, none⟩) N cp)).heap.size (wo.alloc (memBox (some ⟨g, 0, none⟩) N cp)) wl := hbl.1.1.1
  have I0 : WipI w wl k p c a N cap wo.heap.size g cp (cls ms) := ⟨⟨wf_call (wf_call T1.out (blk_alloc _ _)) hBl, (hBl.block _ (by simp)).trans (World.alloc_heap_new wo _)⟩, owns_base (owns_below (HV.out.alloc (memBox (some ⟨g, 0, none⟩) N cp)) hBl) (by simp)⟩
  simp only [World.size_alloc] at hgb hbf
  have L0 : Lb wl k p c bf (wo.heap.size + 1) (wo.heap.size + 1 + 1) wo.heap.size f g N cp := ⟨HA.out ▸ hbl.2.1, by simpa using hbl.1.1.2, by simpa using hbl.1.2, hbl.2.2⟩
  have hBw : Below w.heap.size w wl := wf_below I0.1.1
  have HI0 := Lib.hid I0
  have HL0 := Lib.hid L0
  have hwl : wo.heap.size < wl.heap.size := (Array.getElem?_eq_some_iff.1 I0.1.2).1
  have hA0 := Lib.hid (logAt_any (logAt_owns I0.2 HM.out hfl))
  clear I0 L0 hbl hBl HV T1 c0 c1 c2 m0 r0 r1 f0 f1
  refine wpIn_rangeFunc_ownH rfl (by omega) (gf := 61) (lb := #[.pointer (some ⟨bf, 0, none⟩), .pointer (some ⟨wo.heap.size + 1, 0, none⟩), .pointer (some ⟨wo.heap.size + 1 + 1, 0, none⟩)]) rfl trivial (enters_of Tryd.func61 (by kernel_rfl) rfl)
    (log_stops (fun i => i = g) (fun _ _ => True) k p c HF.out bf (wo.heap.size + 1) (wo.heap.size + 1 + 1) wo.heap.size f g N cp Ln wl (HO.out.below hBw) HL0.out hA0.out (by omega) (by omega) (by omega) (by omega) (by omega) (by omega) HL.out hfl hNb _ (by omega)) KeepC.trans (fun W l o o' _ hl hc _ => keepC_put hl hc) (Below.refl _ _) (fun _ => rfl)
    (fun pre W => WipI w W k p c a N cap wo.heap.size g cp (cls (wipeL ms (pre.map (·.1.1)))))
    (fun _ _ _ => False)
    (fun pre A B row hs hg hr => wipI_keep hs hg (fun r e => ⟨by have := (hr r e).1; omega, (hr r e).2⟩))
    (fun _ _ _ _ _ hs _ _ => hs)
    HI0.out
    (fun x a' _ => a' = { tmps := #[conf k p c, .agg #[.slice a N cap], .int .i64 q, .pointer (some ⟨w.heap.size, 0, none⟩), .pointer (some ⟨w.heap.size + 1, 0, none⟩), undef, .pointer (some ⟨w.heap.size + 1 + 1, 0, none⟩), .pointer (some ⟨w.heap.size + 1 + 1 + 1, 0, none⟩), .pointer (some ⟨wo.heap.size, 0, none⟩), .int .i64 x.1.1, .pointer (some ⟨w.heap.size + 1, 0, none⟩), .slice a N cap, .slice (some ⟨g, 0, none⟩) N cp, .agg #[.slice (some ⟨g, 0, none⟩) N cp], conf k p c, .int .i64 q, .func (.func 61) #[] #[.pointer (some ⟨bf, 0, none⟩), .pointer (some ⟨wo.heap.size + 1, 0, none⟩), .pointer (some ⟨wo.heap.size + 1 + 1, 0, none⟩)], .int .i64 x.1.1, .int .u64 x.1.2, undef, undef, undef], defers := [] })
    (fun x a' _ X Y row hs hg hr => hs)
    ?assign ?body ?done ?stop
  case assign =>
    intro l pre x W K hI hK
    gi_wp2
    exact hK _ _ ((KeepsOthers.refl _).from _) ⟨KeepW.refl _ _, fun h => h⟩ hI rfl
  case body =>
    rintro l pre x a' W hl hr hI rfl hlt
    obtain ⟨j, hj, hxj, _⟩ := x.2
    have hsn : pre.map (·.1.1) ++ [x.1.1] = (pre ++ [x]).map (·.1.1) := by simp
    generalize x.1.1 = i at *
    generalize hps : pre.map (·.1.1) = ps at *
    have HSN := Lib.hid hsn
    have HI := Lib.hid hI
    have hi0 : 0 ≤ i := by omega
    have hi1 : i < N := by omega
    have hlen : (wipeL ms ps).length = N := by rw [wipeL_len, HM.out]
    obtain ⟨y, hy⟩ : ∃ y, (wipeL ms ps)[i.toNat]? = some y := ⟨_, List.getElem?_eq_getElem (by omega)⟩
    have hW1 : wo.heap.size < W.heap.size := (Array.getElem?_eq_some_iff.1 hI.1.2).1
    have CS := cstore_ok wo.heap.size g N cp 0 i y.1 y.2 W (blk_cell hI.1.2 rfl) hW1 (by omega) hi0 hi1
      (by have := hI.2.cells (g := g) rfl (2 * i.toNat) _ (cls_at _ _ _ hy).1; rw [add_at] at this; rw [Nat.mul_comm]; simpa using this)
      (by have := hI.2.cells (g := g) rfl (2 * i.toNat + 1) _ (cls_at _ _ _ hy).2; rw [add_at] at this; rw [Nat.mul_comm]; simpa using this)
      (fun k => by obtain ⟨g', cap', cur, hv, _, h2, _⟩ := hI.2.2.resolve_left (by rintro ⟨h0, _⟩; cases h0); cases hv; exact blk_frozen h2)
    have HCS := Lib.hid CS
    clear hI CS hy hsn hxj hps
    gi_wp2_with (refine ⟨trivial, ?_⟩; gi_at_call 49; refine (CallsIn.inRound l (callsIn_wide.2 HCS.out)).mono ?_; rintro e wk ⟨rfl, hbk⟩)
    have hz2 : ((W.setCell ⟨g, i.toNat * 2, none⟩ (.int .u64 0)).setCell ⟨g, i.toNat * 2 + 1, none⟩ (.int .i64 0)).heap.size = W.heap.size := by simp
    have O2 := owns_put (u := .int .i64 0) (j := i.toNat * 2 + 1) (owns_put (u := .int .u64 0) (j := i.toNat * 2) HI.out.2 (by omega)) (by omega)
    have W2 := wf_far (g := g) (i := i.toNat * 2 + 1) (wf_far (g := g) (i := i.toNat * 2) HI.out.1.1 (by omega) (.int .u64 0)) (by omega) (.int .i64 0)
    have B2 := blk_far (b' := g) (i := i.toNat * 2 + 1) (blk_far (b' := g) (i := i.toNat * 2) HI.out.1.2 (by omega) (.int .u64 0)) (by omega) (.int .i64 0)
    rw [← hz2] at hbk
    have I2 : WipI w wk k p c a N cap wo.heap.size g cp (cls (wipeL ms ((pre ++ [x]).map (·.1.1)))) := by
      rw [← HSN.out, wipeL_snoc, cls_set, Nat.mul_comm 2]
      exact wipI_call ⟨⟨W2, B2⟩, O2⟩ hbk
    exact ⟨(((KeepsOthers.setCell _ _ _).trans (KeepsOthers.setCell _ _ _)).trans (ko_below hbk)).from _, ⟨((KeepW.set (S := fun i => i = g) (a := ⟨g, i.toNat * 2, none⟩) rfl _).trans (KeepW.set (S := fun i => i = g) (a := ⟨g, i.toNat * 2 + 1, none⟩) rfl _)).trans (KeepW.of_below hbk), fun _ => logAt_any (logAt_owns I2.2 (by rw [wipeL_len, HM.out]) hfl)⟩, I2⟩
  case done =>
    rintro D xs W hD ⟨hx1, hx2⟩ hI hK
    rw [log_places hx1 hx2, wipeL_all] at hI
    have HI := Lib.hid hI
    obtain ⟨c0, c1, c2, m0, r0, r1, f0, f1, hzw⟩ := wf_cells hI.1.1
    have y8 := blk_cell hI.1.2 (i := 0) (v := .slice (some ⟨g, 0, none⟩) N cp) rfl
    have HK := Lib.hid hK
    clear hI hK hx1 hx2
    gi_wp2
    have hK' := ((KeepsOthers.setCell W ⟨w.heap.size + 1 + 1, 0, none⟩ (.slice (some ⟨g, 0, none⟩) N cp)).trans (KeepsOthers.setCell _ ⟨w.heap.size + 1 + 1 + 1, 0, none⟩ (.int .i64 0))).same D _ HK.out rfl
    have b2 := blk_far (b' := w.heap.size + 1 + 1 + 1) (i := 0) (blk_set (i := 0) HI.out.1.1.1.2 (.slice (some ⟨g, 0, none⟩) N cp)) (by omega) (.int .i64 0)
    have b3 := blk_set (i := 0) (blk_far (b' := w.heap.size + 1 + 1) (i := 0) HI.out.1.1.2 (by omega) (.slice (some ⟨g, 0, none⟩) N cp)) (.int .i64 0)
    have y2 := blk_cell (blk_put (o' := .deferred none) b2 hK' rfl) (i := 0) (v := .slice (some ⟨g, 0, none⟩) N cp) rfl
    have y3 := blk_cell (blk_put (o' := .deferred none) b3 hK' rfl) (i := 0) (v := .int .i64 0) rfl
    have O3 := owns_keep (owns_set (owns_set HI.out.2 HI.out.1.1.1.2 (by decide) (.slice (some ⟨g, 0, none⟩) N cp) 0) (blk_far (b' := w.heap.size + 1 + 1) (i := 0) HI.out.1.1.2 (by omega) (.slice (some ⟨g, 0, none⟩) N cp)) (by decide) (.int .i64 0) 0) (grownBy_putObj' _ D (.deferred none)) (fun r e => by cases e; exact ⟨_, hK', rfl⟩)
    have hB3 := below_putD (o' := .deferred none) (((wf_below HI.out.1.1).setCell (p := ⟨w.heap.size + 1 + 1, 0, none⟩) (by simp; omega) (.slice (some ⟨g, 0, none⟩) N cp)).setCell (p := ⟨w.heap.size + 1 + 1 + 1, 0, none⟩) (by simp; omega) (.int .i64 0)) hK' (by have := hBw.size; omega) (by simp; omega)
    refine ⟨by simp, .inl ⟨D, _, rfl, run_takeDeferred hK', ?_⟩⟩
    refine ⟨by simp, .inr ⟨fun _ => by omega, .func 39, #[], 39, #[.pointer (some ⟨w.heap.size + 1 + 1 + 1, 0, none⟩)], rfl, by simp [go_sem], fun _ _ => trivial, ?_⟩⟩
    refine callsDIn_mono (caught_idle_in _ _ _) ?_
    rintro e u' w'' ⟨rfl, rfl, rfl⟩
    refine ⟨.tuple #[.agg #[.slice (some ⟨g, 0, none⟩) N cp], .int .i64 0], ?_, ⟨_, rfl, owns_base O3 (by omega)⟩, hB3⟩
    simp [results, Tryd.f23, go_sem, y2, y3]
  case stop =>
    rintro D c' pre W hD _ h _
    exact h.elim

end Go.Proofs.YthigfjelgbdcfaaDoor
