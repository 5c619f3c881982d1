/- The contract of wlog's Lay, whatever the input. -/
import Derived.Test.YthigfjelgbdcfaaDoorGWipX
import Derived.Test.YthigfjelgbdcfaaDoorGUnR

set_option linter.unusedSimpArgs false
set_option linter.unusedVariables false

/-! Layer 16: Lay, where there is no log. -/
namespace Go.Proofs.YthigfjelgbdcfaaDoor
open Go.RowKit Go.Maps Go.Shelf

theorem wLay_err (k p c q r : Int) (a : Option Addr) (n cap : Nat) (ms : List (Int × Int)) (w : World) (hms : ms.length = n) (hl : n ≤ 1000000) (hs : Sl w (.slice a n cap) n (cls ms))
    (hlog : ∀ w1 bm a1 c1, Below w.heap.size w w1 → w1.heap[bm]? = some (memBox a1 n c1) → Calls Tryd.prog 48 #[conf k p c, .pointer (some ⟨bm, 0, none⟩), .int .i64 q] w1 fun e w' => e = .panicked (oddCh r) ∧ Below w1.heap.size w1 w') :
    Calls Tryd.prog 21 #[conf k p c, .agg #[.slice a n cap], .int .i64 q] w fun e w' => e = .returned (memE r) ∧ Below w.heap.size w w' := by
  have CO : Hid (∀ w1, Below w.heap.size w w1 → Calls Tryd.prog 47 #[.slice a n cap] w1 fun e w' => ∃ v, e = .returned v ∧ w'.ownsRow w1.heap.size 68 2 v n (cls ms) ∧ Below w1.heap.size w1 w') := Lib.hid (fun w1 hb => clone _ ms n w1 hms (hs.below hb) hl)
  have CG := Lib.hid hlog
  clear hlog hs hms
  go_enter_defers Tryd.func21, Tryd.ntmps21
  go_wp2_with (first | (go_at_call 47; refine (CO.out _ (wf_below (wf_start w k p c a n cap))).mono ?_; rintro e wo ⟨v, rfl, hv, hbo⟩; obtain ⟨a1, cp1, rfl⟩ := owns_slice hv; have T1 := Lib.hid (wf_call (wf_start w k p c a n cap) hbo); obtain ⟨c0, c1, c2, m0, r0, r1, f0, f1, hz⟩ := wf_cells T1.out; have hz1 : w.heap.size < wo.heap.size := (by omega); clear hbo hv) | (go_at_call 48; refine (CG.out _ wo.heap.size a1 cp1 (wf_below (wf_call (wf_call T1.out (blk_alloc _ _)) (blk_alloc _ _))) (blk_alloc' (World.alloc_heap_new wo _))).mono ?_; rintro e wl ⟨rfl, hbl⟩; have T2 := Lib.hid (wf_call (wf_call (wf_call T1.out (blk_alloc wo (memBox a1 n cp1))) (blk_alloc _ _)) hbl); obtain ⟨c0, c1, c2, m0, r0, r1, f0, f1, hz⟩ := wf_cells T2.out; clear hbl))
  refine leaves_cons (f := 39) (args := #[.pointer (some ⟨w.heap.size + 1 + 1 + 1, 0, none⟩)]) (by simp) (by simp [go_sem]) ?_; have TT := T2.out; refine (caught_panic (w.heap.size + 1 + 1 + 1) r _ _ (wf_lt TT) (wf_cells TT).2.2.2.2.2.1 (wf_cells TT).2.2.2.2.2.2.2.1).mono ?_; rintro e u' w'' ⟨rfl, rfl, hB⟩; have T9 := wf_call (wf_set TT r) (by simpa using hB); have hc := (wf_cells T9).2.2.2.2.1; have hd := (wf_cells T9).2.2.2.2.2.1; simp [Leaves, settle, results, memE, Tryd.results21, go_sem, hc, hd]; exact wf_below T9

/-- cells, some written -/
def layTo (ms : List (Int × Int)) (l : List (Int × Int)) : List (Int × Int) := l.foldl (fun m x => m.set x.1.toNat (x.2, 0)) ms
theorem layTo_snoc (ms l : List (Int × Int)) (x : Int × Int) : layTo ms (l ++ [x]) = (layTo ms l).set x.1.toNat (x.2, 0) := by simp [layTo]
theorem layTo_len (ms l : List (Int × Int)) : (layTo ms l).length = ms.length := by
  induction l generalizing ms with
  | nil => rfl
  | cons i l ih => show (layTo (ms.set i.1.toNat (i.2, 0)) l).length = _; rw [ih, List.length_set]
theorem log_words {ms : List (Int × Int)} {f Ln : Nat} {xs : List (InLog f Ln (fun i x => x = (ms.getD (f + i) (0, 0)).1))} (h : xs.length = Ln) (h1 : LogOk f Ln _ xs) : xs.map (·.1.2) = logW ms f Ln := by
  refine List.ext_getElem? fun i => ?_
  unfold logW
  rcases Nat.lt_or_ge i Ln with hi | hi
  · obtain ⟨x, hx⟩ : ∃ x, xs[i]? = some x := ⟨_, List.getElem?_eq_getElem (by omega)⟩
    rw [List.getElem?_map, List.getElem?_map, hx, List.getElem?_range hi]
    simp [(h1 i x hx).2]
  · rw [List.getElem?_eq_none (by simp; omega), List.getElem?_eq_none (by simp; omega)]
theorem unR_place {k p c : Int} {ws : List Int} (hw : WordsOk ws) : ∀ x ∈ (unR k p c ws).1, 0 ≤ x.1 ∧ x.1 < sizeN k p c := by
  unfold unR
  split
  · split
    · intro x hx; simp at hx
    · split
      · rename_i hu
        intro x hx
        obtain ⟨i, hi, rfl⟩ := List.mem_map.1 hx
        have h1 := hu.1 i (by simpa using hi)
        have h2 := of_decide_eq_true h1
        exact ⟨(hw.getD _).1, by omega⟩
      · intro x hx; simp at hx
  · intro x hx; simp at hx
theorem unR_err {k p c : Int} {ws : List Int} (h : Fit k p c) : ((unR k p c ws).2 = 0 ∨ (unR k p c ws).2 = 2) := by
  unfold unR
  rw [if_pos h]
  split
  · exact .inr rfl
  · split
    · exact .inl rfl
    · exact .inr rfl
theorem owns_far {W : World} {base g i : Nat} {e : TypeId} {size n : Nat} {v : Value} {xs : List Value} (h : W.ownsRow base e size v n xs) (hg : g < base) (u : Value) : (W.setCell ⟨g, i, none⟩ u).ownsRow base e size v n xs := by
  refine ⟨h.1, ?_⟩
  rcases h.2 with h0 | ⟨b, cap, cur, rfl, h1, h2, h3⟩
  · exact .inl h0
  · exact .inr ⟨b, cap, cur, rfl, h1, blk_far h2 (by omega) u, h3⟩
theorem logW_ok {ms : List (Int × Int)} {f Ln : Nat} (h : ∀ x ∈ ms, 0 ≤ x.1 ∧ x.1 ≤ 18446744073709551615) : WordsOk (logW ms f Ln) := by
  intro x hx
  obtain ⟨i, _, rfl⟩ := List.mem_map.1 hx
  rcases Nat.lt_or_ge (f + i) ms.length with hj | hj
  · rw [List.getD_eq_getElem?_getD, List.getElem?_eq_getElem hj]
    exact h _ (List.getElem_mem _)
  · rw [List.getD_eq_getElem?_getD, List.getElem?_eq_none hj]
    simp

/-- what Lay leaves, code or reference -/
def LayPost (w : World) (ms : List (Int × Int)) (N : Nat) (R : List (Int × Int) × Int) (e : Ending) (w' : World) : Prop :=
  ((R.2 = 2 ∧ e = .returned (memE 2)) ∨ (R.2 = 0 ∧ ∃ v, e = .returned (.tuple #[.agg #[v], .int .i64 0]) ∧ w'.ownsRow w.heap.size 68 2 v N (cls (layTo ms R.1)))) ∧ Below w.heap.size w w'

end Go.Proofs.YthigfjelgbdcfaaDoor

/-! Layer 16: Lay, where there is a log. -/
namespace Go.Proofs.YthigfjelgbdcfaaDoor
open Go.RowKit Go.Maps Go.Shelf

attribute [local go_sem] Oper.semAt_some

/-- while the log is read: what stands for Wipe, and the words so far -/
def LayI (w W : World) (k p c : Int) (a : Option Addr) (n cap bo g cp : Nat) (cs : List Value) (bw base : Nat) (ws : List Int) : Prop :=
  WipI w W k p c a n cap bo g cp cs ∧ ∃ v, W.heap[bw]? = some (.cells #[v] 27 (0, 0)) ∧ W.ownsRow base 28 1 v ws.length (u64s ws)
theorem layI_keep {w W W' : World} {k p c : Int} {a : Option Addr} {n cap bo g cp bw base : Nat} {cs : List Value} {ws : List Int} {row : Option Nat} (h : LayI w W k p c a n cap bo g cp cs bw base ws) (hg : W.grownBy W' row) (hr : ∀ r, row = some r → w.heap.size ≤ r ∧ ∃ o : Obj, W.heap[r]? = some o ∧ o.isCells = false) : LayI w W' k p c a n cap bo g cp cs bw base ws := by
  obtain ⟨h1, v, h2, h3⟩ := h
  exact ⟨wipI_keep h1 hg hr, v, blk_own h2 hg (fun r e => (hr r e).2), owns_keep h3 hg (fun r e => (hr r e).2)⟩
theorem layI_call {w W W' : World} {k p c : Int} {a : Option Addr} {n cap bo g cp bw base : Nat} {cs : List Value} {ws : List Int} (h : LayI w W k p c a n cap bo g cp cs bw base ws) (hb : Below W.heap.size W W') : LayI w W' k p c a n cap bo g cp cs bw base ws := by
  obtain ⟨h1, v, h2, h3⟩ := h
  exact ⟨wipI_call h1 hb, v, (hb.block _ (Array.getElem?_eq_some_iff.1 h2).1).trans h2, owns_below h3 hb⟩
/-- a growth by a row of one's own behind all this -/
theorem wipI_grown {w W W' : World} {k p c : Int} {a : Option Addr} {n cap bo g cp base : Nat} {cs : List Value} {row : Option Nat} (h : WipI w W k p c a n cap bo g cp cs) (hg : W.grownBy W' row) (hr : ∀ r, row = some r → base ≤ r) (b1 : w.heap.size + 1 + 1 + 1 < base) (b2 : bo < base) (b3 : g < base) : WipI w W' k p c a n cap bo g cp cs := by
  obtain ⟨⟨⟨⟨⟨⟨hB, h0⟩, h1⟩, h2⟩, h3⟩, h4⟩, h5⟩ := h
  have keep : ∀ (b : Nat) (o : Obj), W.heap[b]? = some o → b < base → W'.heap[b]? = some o := fun b o ho hb => (hg.block b (Array.getElem?_eq_some_iff.1 ho).1 (fun e => by have := hr b e.symm; omega)).trans ho
  refine ⟨⟨⟨⟨⟨⟨hB.grown hg hB.size (fun r e => by have := hr r e; omega), keep _ _ h0 (by omega)⟩, keep _ _ h1 (by omega)⟩, keep _ _ h2 (by omega)⟩, keep _ _ h3 (by omega)⟩, keep _ _ h4 b2⟩, ?_⟩
  refine ⟨h5.1, ?_⟩
  rcases h5.2 with h6 | ⟨b, cap, cur, hv, k1, k2, k3⟩
  · exact .inl h6
  · cases hv
    exact .inr ⟨_, _, cur, rfl, k1, keep _ _ k2 b3, k3⟩
theorem wipI_far {w W : World} {k p c : Int} {a : Option Addr} {n cap bo g cp b i : Nat} {cs : List Value} (h : WipI w W k p c a n cap bo g cp cs) (b1 : w.heap.size + 1 + 1 + 1 < b) (b2 : b ≠ bo) (b3 : b ≠ g) (v : Value) : WipI w (W.setCell ⟨b, i, none⟩ v) k p c a n cap bo g cp cs := by
  refine ⟨⟨wf_far h.1.1 b1 v, blk_far h.1.2 b2 v⟩, h.2.1, ?_⟩
  rcases h.2.2 with h6 | ⟨b', cap, cur, hv, k1, k2, k3⟩
  · exact .inl h6
  · cases hv
    exact .inr ⟨_, _, cur, rfl, k1, blk_far k2 b3 v, k3⟩

theorem owns_isCells {w : World} {base r : Nat} {e : TypeId} {size n : Nat} {v : Value} {xs : List Value} {o : Obj} (h : w.ownsRow base e size v n xs) (hv : v.ownBlock = some r) (ho : w.heap[r]? = some o) : o.isCells = true := by
  rcases h.2 with ⟨rfl, _⟩ | ⟨g, cap, cur, rfl, h1, h2, h3⟩
  · simp [Value.ownBlock] at hv
  · simp [Value.ownBlock] at hv
    subst hv
    rw [h2] at ho
    cases ho
    rfl
theorem KeepW.of_grown {S : Nat → Prop} {W W' : World} {row : Option Nat} (hg : W.grownBy W' row) (hr : ∀ r, row = some r → S r) : KeepW S W W' :=
  ⟨hg.size, fun k c t f hk hs => hg.block k (Array.getElem?_eq_some_iff.1 hk).1 (fun e => hs (hr k e.symm))⟩

set_option linter.unusedSimpArgs false in
set_option maxRecDepth 100000 in
set_option maxHeartbeats 4000000 in
theorem wLay_ok (k p c q : Int) (a : Option Addr) (cap : Nat) (ms : List (Int × Int)) (N f Ln : Nat) (R : List (Int × Int) × Int) (w : World) (ho : Objs w) (h : Fit k p c) (q0 : 0 ≤ q) (q1 : q < p) (hL : logN k p c = Ln) (hL1 : 1 ≤ Ln) (hf : atN k p c 3 q = f) (hfl : f + Ln ≤ N) (hms : ms.length = N) (hN : (N : Int) = sizeN k p c) (hs : Sl w (.slice a N cap) N (cls ms)) (hmw : ∀ x ∈ ms, 0 ≤ x.1 ∧ x.1 ≤ 18446744073709551615)
    (hR : unR k p c (logW ms f Ln) = R) :
    Calls Tryd.prog 21 #[conf k p c, .agg #[.slice a N cap], .int .i64 q] w fun e w' => ((R.2 = 2 ∧ e = .returned (memE 2)) ∨ (R.2 = 0 ∧ ∃ v, e = .returned (.tuple #[.agg #[v], .int .i64 0]) ∧ w'.ownsRow w.heap.size 68 2 v N (cls (layTo ms R.1)))) ∧ Below w.heap.size w w' := by
  have hNb : N ≤ 40000 := by have := sizeN_bd k p c; omega
  have hR2 : R.2 = 0 ∨ R.2 = 2 := hR ▸ unR_err h
  have HRP := Lib.hid (show ∀ x ∈ R.1, 0 ≤ x.1 ∧ x.1 < N by rw [← hR, hN]; exact unR_place (logW_ok hmw))
  have CO : Hid (∀ w1, Below w.heap.size w w1 → Calls Tryd.prog 47 #[.slice a N cap] w1 fun e w' => ∃ v, e = .returned v ∧ w'.ownsRow w1.heap.size 68 2 v N (cls ms) ∧ Below w1.heap.size w1 w') := Lib.hid (fun w1 hb => clone _ ms N w1 hms (hs.below hb) (by omega))
  have CG : Hid (∀ w1 bm a1 c1, Below w.heap.size w w1 → w1.heap[bm]? = some (memBox a1 N c1) → Calls Tryd.prog 48 #[conf k p c, .pointer (some ⟨bm, 0, none⟩), .int .i64 q] w1 fun e w' => ∃ bf, e = .returned (.func (.func 61) #[] #[.pointer (some ⟨bf, 0, none⟩), .pointer (some ⟨w1.heap.size, 0, none⟩), .pointer (some ⟨w1.heap.size + 1, 0, none⟩)]) ∧ Lh w1 w' k p c bm bf (atN k p c 3 q) a1 N c1 ∧ w1.heap.size + 1 < bf) :=
    Lib.hid (fun w1 bm a1 c1 hb hm => wLog_ok k p c q bm a1 N c1 w1 (ho.below hb) hm h q0 q1 hN)
  have CU : Hid (∀ w1 sv, Below w.heap.size w w1 → Sl w1 sv Ln (u64s (logW ms f Ln)) → Calls Tryd.prog 15 #[conf k p c, sv] w1 (UnPost w1 R)) := Lib.hid (fun w1 sv hb hsv => hR ▸ wUn k p c sv (logW ms f Ln) Ln w1 (ho.below hb) (logW_len _ _ _) hsv (logW_ok hmw))
  have HO := Lib.hid ho
  have HF := Lib.hid h
  have HL := Lib.hid hL
  have HA := Lib.hid hf
  have HM := Lib.hid hms
  have hLm : Ln ≤ 2117 := by have := logN_bd k p c; omega
  clear ho h hL hf hms hs q0 q1 hN hR hmw
  refine (callsIn_wide (n := 4)).1 ?_
  refine callsIn_of_wp_marks Tryd.func21 rfl trivial ?_ rfl
  simp only [Tryd.ntmps21, List.size_toArray, List.length_cons, List.length_nil, Nat.reduceAdd, Nat.reduceSub, Array.replicate_succ, Array.replicate_zero, List.push_toArray, List.append_toArray, List.nil_append, List.cons_append]
  gi_wp2_with (first | (refine ⟨trivial, ?_⟩; gi_at_call 47; refine (callsIn_wide.2 (CO.out _ (wf_below (wf_start w k p c a N cap)))).mono ?_; rintro e wo ⟨v, rfl, hv, hbo⟩; obtain ⟨g, cp, rfl, hgb, hgl⟩ := World.ownsRow.form hv (by omega); have T1 := Lib.hid (wf_call (wf_start w k p c a N cap) hbo); have HV := Lib.hid hv; obtain ⟨c0, c1, c2, m0, r0, r1, f0, f1, hz⟩ := wf_cells T1.out; have hz1 : w.heap.size < wo.heap.size := (by omega); clear hbo hv) | (refine ⟨trivial, ?_⟩; gi_at_call 48; refine (callsIn_wide.2 (CG.out _ wo.heap.size (some ⟨g, 0, none⟩) cp (wf_below (wf_call (wf_call T1.out (blk_alloc _ _)) (blk_alloc _ _))) (blk_alloc' (World.alloc_heap_new wo _)))).mono ?_; rintro e wl ⟨bf, rfl, hbl, hbf⟩))
  have hBl : Below ((wo.alloc (memBox (some ⟨g, 0, none⟩) N cp)).alloc (.cells #[.slice none 0 0] 27)).heap.size ((wo.alloc (memBox (some ⟨g, 0, none⟩) N cp)).alloc (.cells #[.slice none 0 0] 27)) wl := hbl.1.1.1
  have I0 : WipI w wl k p c a N cap wo.heap.size g cp (cls ms) := ⟨⟨wf_call (wf_call (wf_call T1.out (blk_alloc _ _)) (blk_alloc _ _)) hBl, (hBl.block _ (by simp; omega)).trans (blk_alloc' (World.alloc_heap_new wo _))⟩, owns_base (owns_below ((HV.out.alloc (memBox (some ⟨g, 0, none⟩) N cp)).alloc _) hBl) (by simp)⟩
  have J0 : LayI w wl k p c a N cap wo.heap.size g cp (cls ms) (wo.heap.size + 1) wl.heap.size [] := ⟨I0, .slice none 0 0, (hBl.block _ (by simp)).trans (by simpa using World.alloc_heap_new (wo.alloc (memBox (some ⟨g, 0, none⟩) N cp)) (.cells #[.slice none 0 0] 27)), World.ownsRow_nil _ _ _ _⟩
  simp only [World.size_alloc] at hgb hbf
  have L0 : Lb wl k p c bf (wo.heap.size + 1 + 1) (wo.heap.size + 1 + 1 + 1) wo.heap.size f g N cp := ⟨HA.out ▸ hbl.2.1, by simpa using hbl.1.1.2, by simpa using hbl.1.2, hbl.2.2⟩
  have hBw : Below w.heap.size w wl := wf_below I0.1.1
  have HJ0 := Lib.hid J0
  have HL0 := Lib.hid L0
  have hwl : wo.heap.size + 1 + 1 + 1 < wl.heap.size := (Array.getElem?_eq_some_iff.1 L0.2.2.1).1
  have hbfl : bf < wl.heap.size := (Array.getElem?_eq_some_iff.1 L0.1).1
  have hA0 := Lib.hid (logAt_owns I0.2 HM.out hfl)
  clear I0 J0 L0 hbl hBl HV T1 c0 c1 c2 m0 r0 r1 f0 f1
  refine wpIn_rangeFunc_ownH rfl (by omega) (gf := 61) (lb := #[.pointer (some ⟨bf, 0, none⟩), .pointer (some ⟨wo.heap.size + 1 + 1, 0, none⟩), .pointer (some ⟨wo.heap.size + 1 + 1 + 1, 0, none⟩)]) rfl trivial (enters_of Tryd.func61 (by kernel_rfl) rfl)
    (log_stops (fun i => i = wo.heap.size + 1 ∨ wl.heap.size ≤ i) (fun i x => x = (ms.getD (f + i) (0, 0)).1) k p c HF.out bf (wo.heap.size + 1 + 1) (wo.heap.size + 1 + 1 + 1) wo.heap.size f g N cp Ln wl (HO.out.below hBw) HL0.out hA0.out (by omega) (by omega) (by omega) (by omega) (by omega) (by omega) HL.out hfl hNb _ (by omega)) KeepC.trans (fun W l o o' _ hl hc _ => keepC_put hl hc) (Below.refl _ _) (fun _ => rfl)
    (fun pre W => LayI w W k p c a N cap wo.heap.size g cp (cls ms) (wo.heap.size + 1) wl.heap.size (pre.map (·.1.2)))
    (fun _ _ _ => False)
    (fun pre A B row hs hg hr => layI_keep hs hg (fun r e => ⟨by have := (hr r e).1; have := hBw.size; omega, (hr r e).2⟩))
    (fun _ _ _ _ _ hs _ _ => hs)
    HJ0.out
    (fun x a' _ => a' = { tmps := #[conf k p c, .agg #[.slice a N cap], .int .i64 q, .pointer (some ⟨w.heap.size, 0, none⟩), .pointer (some ⟨w.heap.size + 1, 0, none⟩), undef, .pointer (some ⟨w.heap.size + 1 + 1, 0, none⟩), .pointer (some ⟨w.heap.size + 1 + 1 + 1, 0, none⟩), .pointer (some ⟨wo.heap.size, 0, none⟩), .pointer (some ⟨wo.heap.size + 1, 0, none⟩), undef, .int .u64 x.1.2, undef, undef, undef, .pointer (some ⟨w.heap.size + 1, 0, none⟩), .slice a N cap, .slice (some ⟨g, 0, none⟩) N cp, .agg #[.slice (some ⟨g, 0, none⟩) N cp], conf k p c, .int .i64 q, .func (.func 61) #[] #[.pointer (some ⟨bf, 0, none⟩), .pointer (some ⟨wo.heap.size + 1 + 1, 0, none⟩), .pointer (some ⟨wo.heap.size + 1 + 1 + 1, 0, none⟩)], .int .i64 x.1.1, .int .u64 x.1.2, undef, undef, undef, undef, undef, undef, undef, undef, undef, undef, undef, undef, undef, undef, undef, undef, undef, undef, undef, undef, undef, undef, undef, undef, undef, undef], defers := [] })
    (fun x a' _ X Y row hs hg hr => hs)
    ?assign ?body ?done ?stop
  case assign =>
    intro l pre x W K hI hK
    gi_wp2
    exact hK _ _ ((KeepsOthers.refl _).from _) ⟨KeepW.refl _ _, fun h => h⟩ hI rfl
  case body =>
    rintro l pre x a' W hl hr hI rfl hlt
    have hsn : pre.map (·.1.2) ++ [x.1.2] = (pre ++ [x]).map (·.1.2) := by simp
    have hplen : (pre.map (·.1.2)).length < Ln := by simpa using hlt
    generalize x.1.1 = i at *
    generalize x.1.2 = x2 at *
    generalize hps : pre.map (·.1.2) = ps at *
    have HSN := Lib.hid hsn
    obtain ⟨hI1, v, hbw, how⟩ := hI
    have HI := Lib.hid hI1
    have HBW := Lib.hid hbw
    have HOW := Lib.hid how
    obtain ⟨a1, cp1, rfl⟩ := owns_slice how
    obtain ⟨i0, hi, hz0, hz1', hz2⟩ := info_parts word_info
    have y9 := blk_cell hbw (i := 0) (v := .slice a1 ps.length cp1) rfl
    have hWb : wo.heap.size + 1 < W.heap.size := (Array.getElem?_eq_some_iff.1 hbw).1
    have hWs : wl.heap.size ≤ W.heap.size := by obtain ⟨r, hr⟩ := hr; have := (Array.getElem?_eq_some_iff.1 hr).1; omega
    clear hI1 hbw how hsn hps
    gi_wp2_with (gi_at_builtin; refine wpListIn_append_own _ rfl (.tmp 24) (.tmp 26) 27 (by rfl) wl.heap.size 28 i0 _ 1 8 under_words hi hz0 hz1' hz2 rfl (by decide) _ _ _ (by rfl) (HOW.out.alloc _) ⟨W.heap.size, 0, none⟩ 1 1 [.int .u64 x2] (by rfl) (by rfl) (World.news_of_block (World.alloc_heap_new W _)) (by intro u hu; simp at hu; rw [hu]; rfl) (by unfold maxLen; omega) (by omega) (by simp; omega) ?_; intro v9 w9 hown9 hg9 _; obtain ⟨a9, cp9, rfl⟩ := owns_slice hown9; have b9 := (hg9.block (wo.heap.size + 1) (by simp; omega) (fun e => by have := (HOW.out.lt _ e.symm).1; omega)).trans (blk_alloc' HBW.out); have f9 := blk_frozen b9 (i := 0); have z9 := blk_cell b9 (i := 0) (v := .slice a1 ps.length cp1) rfl)
    have hrow : ∀ r, (Value.slice a1 ps.length cp1).ownBlock = some r → wl.heap.size ≤ r := fun r e => (HOW.out.lt _ e).1
    have W2 : WipI w (w9.setCell ⟨wo.heap.size + 1, 0, none⟩ (.slice a9 (ps.length + 1) cp9)) k p c a N cap wo.heap.size g cp (cls ms) :=
      wipI_far (wipI_grown (wipI_call HI.out (blk_alloc _ _)) hg9 hrow (by omega) (by omega) (by omega)) (by omega) (by omega) (by omega) _
    have O2 : (w9.setCell ⟨wo.heap.size + 1, 0, none⟩ (.slice a9 (ps.length + 1) cp9)).ownsRow wl.heap.size 28 1 (.slice a9 (ps.length + 1) cp9) (ps.length + 1) (u64s (ps ++ [x2])) := owns_far (by simpa using hown9) (by omega) _
    refine ⟨(((KeepsOthers.alloc _ _).trans (KeepsOthers.of_grownBy hg9 (fun j o hj ho => owns_isCells (HOW.out.alloc _) hj ho))).trans (KeepsOthers.setCell _ _ _)).from _, ⟨((KeepW.of_below (blk_alloc _ _)).trans (KeepW.of_grown hg9 (fun r e => .inr (hrow r e)))).trans (KeepW.set (S := fun i => i = wo.heap.size + 1 ∨ wl.heap.size ≤ i) (a := ⟨wo.heap.size + 1, 0, none⟩) (.inl rfl) _), fun _ => logAt_owns W2.2 HM.out hfl⟩, W2, .slice a9 (ps.length + 1) cp9, blk_set b9 _, ?_⟩
    rw [← HSN.out]
    simpa using O2
  case done =>
    rintro D xs W hD ⟨hx1, hx2⟩ hI hK
    rw [log_words hx1 hx2] at hI
    obtain ⟨hI1, v, hbw, how⟩ := hI
    rw [logW_len] at how
    obtain ⟨av, cv, rfl⟩ := owns_slice how
    have HI := Lib.hid hI1
    obtain ⟨c0, c1, c2, m0, r0, r1, f0, f1, hzw⟩ := wf_cells hI1.1.1
    have y9 := blk_cell hbw (i := 0) (v := .slice av Ln cv) rfl
    have HK := Lib.hid hK
    have HS := Lib.hid (sl_of_owns how)
    have hWD : D < W.heap.size := (Array.getElem?_eq_some_iff.1 hK).1
    have hWb : wo.heap.size < W.heap.size := (Array.getElem?_eq_some_iff.1 hI1.1.2).1
    clear hI1 hK hx1 hx2 how hbw
    rcases hR2 with hr0 | hr0
    · gi_wp2_with (first | (refine ⟨trivial, ?_⟩; gi_at_call 15; refine (callsIn_wide.2 (CU.out _ _ (wf_below HI.out.1.1) HS.out)).mono ?_; rintro e wu ⟨vl, rfl, hvl, hbu⟩; obtain ⟨al, cl, rfl⟩ := owns_slice hvl; rw [hr0]; have I2 := Lib.hid (wipI_call HI.out hbu); have K2 := Lib.hid ((hbu.block D hWD).trans HK.out); have V2 := Lib.hid hvl; have hzW := hbu.size; obtain ⟨c0, c1, c2, m0, r0, r1, f0, f1, hzu⟩ := wf_cells I2.out.1.1; clear hbu hvl) | (refine ⟨trivial, ?_⟩; gi_at_call 40; refine (callsIn_wide.2 (want_yes _ _)).mono ?_; rintro e w' ⟨rfl, rfl⟩))
      have HW := Lib.hid (show ∀ wr j, j < R.1.length → WipI w wr k p c a N cap wo.heap.size g cp (cls (layTo ms (R.1.take j))) → ∀ x, R.1[j]? = some x → ∀ w1, Below wr.heap.size wr w1 → Calls Tryd.prog 49 #[.pointer (some ⟨wo.heap.size, 0, none⟩), .int .i64 x.1, .int .u64 x.2] w1 fun e w' => e = .returned (.int .i64 0) ∧ Below w1.heap.size w1 w1 ∧ WipI w w' k p c a N cap wo.heap.size g cp (cls (layTo ms (R.1.take (j + 1)))) ∧ Below w1.heap.size ((w1.setCell ⟨g, x.1.toNat * 2, none⟩ (.int .u64 x.2)).setCell ⟨g, x.1.toNat * 2 + 1, none⟩ (.int .i64 0)) w' from by
        intro wr j hj hW x hx w1 hb
        have hW1 := wipI_call hW hb
        obtain ⟨hx0, hx1⟩ := HRP.out x (List.mem_of_getElem? hx)
        have hlen : (layTo ms (R.1.take j)).length = N := by rw [layTo_len, HM.out]
        obtain ⟨y, hy⟩ : ∃ y, (layTo ms (R.1.take j))[x.1.toNat]? = some y := ⟨_, List.getElem?_eq_getElem (by omega)⟩
        have hl1 : wo.heap.size < w1.heap.size := (Array.getElem?_eq_some_iff.1 hW1.1.2).1
        refine (cstore_ok wo.heap.size g N cp x.2 x.1 y.1 y.2 w1 (blk_cell hW1.1.2 rfl) hl1 (by omega) hx0 hx1
          (by have := hW1.2.cells (g := g) rfl (2 * x.1.toNat) _ (cls_at _ _ _ hy).1; rw [add_at] at this; rw [Nat.mul_comm]; simpa using this)
          (by have := hW1.2.cells (g := g) rfl (2 * x.1.toNat + 1) _ (cls_at _ _ _ hy).2; rw [add_at] at this; rw [Nat.mul_comm]; simpa using this)
          (fun k => by obtain ⟨g', cap', cur, hv, _, h2, _⟩ := hW1.2.2.resolve_left (by rintro ⟨h0, _⟩; cases h0); cases hv; exact blk_frozen h2)).mono ?_
        rintro e w' ⟨rfl, hbk⟩
        refine ⟨rfl, Below.refl _ _, ?_, hbk⟩
        have O2 := owns_put (u := .int .i64 0) (j := x.1.toNat * 2 + 1) (owns_put (u := .int .u64 x.2) (j := x.1.toNat * 2) hW1.2 (by omega)) (by omega)
        have W2 := wf_far (g := g) (i := x.1.toNat * 2 + 1) (wf_far (g := g) (i := x.1.toNat * 2) hW1.1.1 (by omega) (.int .u64 x.2)) (by omega) (.int .i64 0)
        have B2 := blk_far (b' := g) (i := x.1.toNat * 2 + 1) (blk_far (b' := g) (i := x.1.toNat * 2) hW1.1.2 (by omega) (.int .u64 x.2)) (by omega) (.int .i64 0)
        rw [List.take_add_one, hx, Option.toList_some, layTo_snoc, cls_set, Nat.mul_comm 2]
        exact wipI_call ⟨⟨W2, B2⟩, O2⟩ (by simpa using hbk))
      have hWs : wl.heap.size ≤ W.heap.size := by omega
      have hgW : g < W.heap.size := by omega
      have hnm : R.1.length ≤ 9223372036854775807 := by
        rcases V2.out.2 with ⟨h0, _⟩ | ⟨g', cap', cur, hv, h1, h2, h3, h4, _⟩
        · have := V2.out.1; have e := congrArg (fun v => match v with | Value.slice _ n _ => n | _ => 0) h0; simp only at e; omega
        · unfold maxLen at h4; omega
      have I3 := Lib.hid (show WipI w (wu.setCell ⟨w.heap.size + 1 + 1 + 1, 0, none⟩ (.int .i64 0)) k p c a N cap wo.heap.size g cp (cls (layTo ms (R.1.take 0))) from ⟨⟨wf_set I2.out.1.1 0, blk_far I2.out.1.2 (by omega) _⟩, owns_set I2.out.2 I2.out.1.1.2 (by decide) _ _⟩)
      have V3 := Lib.hid (owns_far V2.out (i := 0) (g := w.heap.size + 1 + 1 + 1) (by omega) (.int .i64 0))
      have K3 := Lib.hid ((KeepsOthers.setCell wu ⟨w.heap.size + 1 + 1 + 1, 0, none⟩ (.int .i64 0)).same D _ K2.out rfl)
      clear I2 V2 K2 c0 c1 c2 m0 r0 r1 f0 f1 y9
      gi_loopw [39] (fun i wr => ∃ j : Nat, j ≤ R.1.length ∧ i = .int .i64 j ∧ Hid (WipI w wr k p c a N cap wo.heap.size g cp (cls (layTo ms (R.1.take j)))) ∧ Hid (wr.ownsRow W.heap.size 71 2 (.slice al R.1.length cl) R.1.length (wrs R.1)) ∧ Hid (wr.heap[D]? = some (.deferred (some []))) ∧ W.heap.size ≤ wr.heap.size) (fun i wr => R.1.length - (intOf i).toNat)
      case atStart => exact ⟨0, by omega, rfl, I3, V3, K3, by simpa using hzW⟩
      case round =>
        obtain ⟨j, hj, rfl, hI, hV, hK, hz⟩ := hrel
        clear I3 V3 K3
        by_cases hlt : j = R.1.length
        · have hI' : WipI w wr k p c a N cap wo.heap.size g cp (cls (layTo ms R.1)) := by have := hI.out; rw [hlt, List.take_length] at this; exact this
          have HI := Lib.hid hI'
          obtain ⟨c0, c1, c2, m0, r0, r1, f0, f1, hzw⟩ := wf_cells hI'.1.1
          have y8 := blk_cell hI'.1.2 (i := 0) (v := .slice (some ⟨g, 0, none⟩) N cp) rfl
          have hlt2 : decide (j < R.1.length) = false := decide_eq_false (by omega)
          clear hI' hI hlt
          gi_wp2
          have hK' := ((KeepsOthers.setCell wr ⟨w.heap.size + 1 + 1, 0, none⟩ (.slice (some ⟨g, 0, none⟩) N cp)).trans (KeepsOthers.setCell _ ⟨w.heap.size + 1 + 1 + 1, 0, none⟩ (.int .i64 0))).same D _ hK.out rfl
          have b2 := blk_far (b' := w.heap.size + 1 + 1 + 1) (i := 0) (blk_set (i := 0) HI.out.1.1.1.2 (.slice (some ⟨g, 0, none⟩) N cp)) (by omega) (.int .i64 0)
          have b3 := blk_set (i := 0) (blk_far (b' := w.heap.size + 1 + 1) (i := 0) HI.out.1.1.2 (by omega) (.slice (some ⟨g, 0, none⟩) N cp)) (.int .i64 0)
          have y2 := blk_cell (blk_put (o' := .deferred none) b2 hK' rfl) (i := 0) (v := .slice (some ⟨g, 0, none⟩) N cp) rfl
          have y3 := blk_cell (blk_put (o' := .deferred none) b3 hK' rfl) (i := 0) (v := .int .i64 0) rfl
          have O3 := owns_keep (owns_set (owns_set HI.out.2 HI.out.1.1.1.2 (by decide) (.slice (some ⟨g, 0, none⟩) N cp) 0) (blk_far (b' := w.heap.size + 1 + 1) (i := 0) HI.out.1.1.2 (by omega) (.slice (some ⟨g, 0, none⟩) N cp)) (by decide) (.int .i64 0) 0) (grownBy_putObj' _ D (.deferred none)) (fun r e => by cases e; exact ⟨_, hK', rfl⟩)
          have hB3 := below_putD (o' := .deferred none) (((wf_below HI.out.1.1).setCell (p := ⟨w.heap.size + 1 + 1, 0, none⟩) (by simp; omega) (.slice (some ⟨g, 0, none⟩) N cp)).setCell (p := ⟨w.heap.size + 1 + 1 + 1, 0, none⟩) (by simp; omega) (.int .i64 0)) hK' (by have := hBw.size; omega) (by simp; omega)
          refine ⟨by simp, .inl ⟨D, _, rfl, run_takeDeferred hK', ?_⟩⟩
          refine ⟨by simp, .inr ⟨fun _ => by omega, .func 39, #[], 39, #[.pointer (some ⟨w.heap.size + 1 + 1 + 1, 0, none⟩)], rfl, by simp [go_sem], fun _ _ => trivial, ?_⟩⟩
          refine callsDIn_mono (caught_idle_in _ _ _) ?_
          rintro e u' w'' ⟨rfl, rfl, rfl⟩
          refine ⟨.tuple #[.agg #[.slice (some ⟨g, 0, none⟩) N cp], .int .i64 0], ?_, .inr ⟨hr0, _, rfl, owns_base O3 (by omega)⟩, hB3⟩
          simp [results, Tryd.f21, go_sem, y2, y3]
        · have hlt' : j < R.1.length := by omega
          have hlt2 : decide (j < R.1.length) = true := decide_eq_true hlt'
          obtain ⟨gl, cl', hve, hgl1, hgl2⟩ := World.ownsRow.form hV.out (by omega)
          cases hve
          obtain ⟨x, hx⟩ : ∃ x, R.1[j]? = some x := ⟨_, List.getElem?_eq_getElem hlt'⟩
          have e1 : wr.cell? ⟨gl, j * 2, none⟩ = some (.int .i64 x.1) := by have := hV.out.cells (g := gl) rfl (2 * j) _ (wrs_at _ _ _ hx).1; rw [add_at] at this; rw [Nat.mul_comm]; simpa using this
          have e2 : wr.cell? ⟨gl, j * 2 + 1, none⟩ = some (.int .u64 x.2) := by have := hV.out.cells (g := gl) rfl (2 * j + 1) _ (wrs_at _ _ _ hx).2; rw [add_at] at this; rw [Nat.mul_comm]; simpa using this
          have CS := Lib.hid (HW.out wr j hlt' hI.out x hx _ (blk_alloc wr (.cells #[.int .i64 x.1, .int .u64 x.2] 71)))
          clear hlt hj
          gi_wp2_with (refine ⟨trivial, ?_⟩; gi_at_call 49; refine (callsIn_wide.2 CS.out).mono ?_; rintro e wk ⟨rfl, _, hI2, hbk⟩)
          have hbk' : Below (((wr.alloc (.cells #[.int .i64 x.1, .int .u64 x.2] 71)).setCell ⟨g, x.1.toNat * 2, none⟩ (.int .u64 x.2)).setCell ⟨g, x.1.toNat * 2 + 1, none⟩ (.int .i64 0)).heap.size (((wr.alloc (.cells #[.int .i64 x.1, .int .u64 x.2] 71)).setCell ⟨g, x.1.toNat * 2, none⟩ (.int .u64 x.2)).setCell ⟨g, x.1.toNat * 2 + 1, none⟩ (.int .i64 0)) wk := by simpa using hbk
          have V4 := Lib.hid (owns_below (owns_far (owns_far (hV.out.alloc (.cells #[.int .i64 x.1, .int .u64 x.2] 71)) hgW (i := x.1.toNat * 2) (.int .u64 x.2)) hgW (i := x.1.toNat * 2 + 1) (.int .i64 0)) hbk')
          have K4 := Lib.hid ((((KeepsOthers.alloc wr (.cells #[.int .i64 x.1, .int .u64 x.2] 71)).trans (KeepsOthers.setCell _ ⟨g, x.1.toNat * 2, none⟩ (.int .u64 x.2))).trans ((KeepsOthers.setCell _ ⟨g, x.1.toNat * 2 + 1, none⟩ (.int .i64 0)).trans (ko_below hbk'))).same D _ hK.out rfl)
          have hz4 : W.heap.size ≤ wk.heap.size := by have := hbk'.size; simp at this; omega
          exact ⟨⟨j + 1, by omega, by go_num, Lib.hid hI2, V4, K4, hz4⟩, by simp [intOf]; omega⟩
    · gi_wp2_with (first | (refine ⟨trivial, ?_⟩; gi_at_call 15; refine (callsIn_wide.2 (CU.out _ _ (wf_below HI.out.1.1) HS.out)).mono ?_; rintro e wu ⟨vl, rfl, hvl, hbu⟩; rw [hr0]; have I2 := Lib.hid (wipI_call HI.out hbu); have K2 := Lib.hid ((hbu.block D hWD).trans HK.out); obtain ⟨c0, c1, c2, m0, r0, r1, f0, f1, hzu⟩ := wf_cells I2.out.1.1; clear hbu hvl) | (refine ⟨trivial, ?_⟩; gi_at_call 40; refine (callsIn_wide.2 (want_no _ _)).mono ?_; rintro e w' ⟨rfl, rfl⟩))
      have hK' := (KeepsOthers.setCell wu ⟨w.heap.size + 1 + 1 + 1, 0, none⟩ (.int .i64 2)).same D _ K2.out rfl
      have T4 : Wf w ((wu.setCell ⟨w.heap.size + 1 + 1 + 1, 0, none⟩ (.int .i64 2)).putObj D (.deferred none)) k p c a N cap 2 := wf_keep (wf_set I2.out.1.1 2) (grownBy_putObj' _ D _) (fun r e => by cases e; exact ⟨by have := hBw.size; omega, _, hK', rfl⟩)
      refine ⟨by simp, .inl ⟨D, _, rfl, run_takeDeferred hK', ?_⟩⟩
      refine ⟨by simp, .inr ⟨fun _ => by omega, .func 39, #[], 39, #[.pointer (some ⟨w.heap.size + 1 + 1 + 1, 0, none⟩)], rfl, by simp [go_sem], fun _ _ => trivial, ?_⟩⟩
      refine callsDIn_mono (caught_panic_in _ (w.heap.size + 1 + 1 + 1) 2 _ _ (wf_lt T4) (wf_cells T4).2.2.2.2.2.1 (wf_cells T4).2.2.2.2.2.2.2.1) ?_
      rintro e u' w'' ⟨rfl, rfl, hB⟩
      have T9 := wf_call (wf_set T4 2) (by simpa using hB)
      have y2 := (wf_cells T9).2.2.2.2.1
      have y3 := (wf_cells T9).2.2.2.2.2.1
      refine ⟨memE 2, ?_, .inl ⟨hr0, rfl⟩, wf_below T9⟩
      simp [results, memE, Tryd.f21, go_sem, y2, y3]
  case stop =>
    rintro D c' pre W hD _ h _
    exact h.elim

end Go.Proofs.YthigfjelgbdcfaaDoor
