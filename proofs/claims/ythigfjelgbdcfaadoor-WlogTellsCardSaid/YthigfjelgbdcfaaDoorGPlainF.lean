/- The contract of wlog's Pack, for every configuration and every list of writes. -/
import Derived.Test.YthigfjelgbdcfaaDoorGPackF
import Derived.Maps.OwnSet
import Derived.Maps.OwnOps

set_option linter.unusedSimpArgs false
set_option linter.unusedVariables false

/-! Layer 16, plain: the set of places that were had, and the words laid one by one. -/
namespace Go.Proofs.YthigfjelgbdcfaaDoor
open Go.RowKit Go.Maps

def keysOf (l : List (Int × Int)) (n : Nat) : List Lit := (l.take n).map (fun x => Lit.int .i64 x.1)
def Sd (l : List (Int × Int)) (n : Nat) : DataW Unit := setOf (.agg []) (keysOf l n)
theorem Sd_zero (l : List (Int × Int)) : Sd l 0 = .map [] := by simp [Sd, keysOf, setOf]
theorem Sd_succ {l : List (Int × Int)} {n : Nat} {x : Int × Int} (h : l[n]? = some x) : Sd l (n + 1) = (Sd l n).put (.int .i64 x.1) (.agg []) := by
  unfold Sd keysOf
  rw [List.take_add_one, h, List.map_append]
  exact setOf_snoc _ _ _
theorem has_Sd (l : List (Int × Int)) (n : Nat) (x : Int) : Maps.has (Sd l n) (.int .i64 x) = (l.take n).any (fun y => decide (y.1 = x)) := by
  unfold Sd
  rw [has_setOf _ _ _ (fun y hy => by obtain ⟨_, _, rfl⟩ := List.mem_map.1 hy; trivial)]
  unfold keysOf
  rw [List.any_map]
  congr 1
  funext y
  show decide (IntKind.i64 = IntKind.i64 ∧ y.1 = x) = decide (y.1 = x)
  simp
theorem any_take {l : List (Int × Int)} {n : Nat} {x : Int} (h : (l.take n).any (fun y => decide (y.1 = x)) = true) : ∃ j y, j < n ∧ l[j]? = some y ∧ y.1 = x := by
  obtain ⟨y, hy, hx⟩ := List.any_eq_true.1 h
  obtain ⟨j, hj, rfl⟩ := List.mem_iff_getElem.1 hy
  have hj2 := hj
  rw [List.length_take] at hj2
  exact ⟨j, l[j]'(by omega), by omega, List.getElem?_eq_getElem (by omega), by simpa using hx⟩
theorem not_any_take {l : List (Int × Int)} {n : Nat} {x : Int} (h : (l.take n).any (fun y => decide (y.1 = x)) = false) : ∀ j y, j < n → l[j]? = some y → y.1 ≠ x := by
  intro j y hj hy e
  have : (l.take n).any (fun y => decide (y.1 = x)) = true := List.any_eq_true.2 ⟨y, List.mem_iff_getElem?.2 ⟨j, by rw [List.getElem?_take]; simp [hj, hy]⟩, by simpa using e⟩
  rw [h] at this
  cases this

theorem made_words (n : Nat) : madeCells (Value.int .u64 0).cells n = (u64s (List.replicate n 0)).toArray := by
  apply Array.ext
  · simp [madeCells]
  · intro i h1 h2
    simp [madeCells, Value.cells, Nat.mod_one]

def outL (m Ln n : Nat) (l : List (Int × Int)) : List Int := (m : Int) :: pk (l.take n) ++ List.replicate (Ln - (1 + 2 * n)) 0
def outCells (m Ln n : Nat) (l : List (Int × Int)) : Array Value := (u64s (outL m Ln n l)).toArray
theorem out_zero (m Ln : Nat) (l : List (Int × Int)) (h : 1 ≤ Ln) : (u64s (List.replicate Ln 0)).toArray.setIfInBounds 0 (.int .u64 m) = outCells m Ln 0 l := by
  obtain ⟨L, rfl⟩ : ∃ L, Ln = L + 1 := ⟨Ln - 1, by omega⟩
  simp [outCells, outL, pk, List.replicate_succ]
theorem out_step {m Ln n : Nat} {l : List (Int × Int)} {x : Int × Int} (hx : l[n]? = some x) (h : 1 + 2 * (n + 1) ≤ Ln) :
    ((outCells m Ln n l).setIfInBounds (1 + 2 * n) (.int .u64 (wu x.1))).setIfInBounds (2 + 2 * n) (.int .u64 x.2) = outCells m Ln (n + 1) l := by
  have hn : n < l.length := (List.getElem?_eq_some_iff.1 hx).1
  have hp : ((m : Int) :: pk (l.take n)).length = 1 + 2 * n := by simp [pk_len]; omega
  unfold outCells outL
  rw [pk_take hx]
  obtain ⟨L, hL⟩ : ∃ L, Ln - (1 + 2 * n) = L + 2 := ⟨Ln - (1 + 2 * n) - 2, by omega⟩
  rw [show Ln - (1 + 2 * (n + 1)) = L by omega, hL]
  simp only [List.setIfInBounds_toArray, u64s]
  congr 1
  rw [List.map_append, List.replicate_succ, List.replicate_succ]
  rw [List.set_append_right _ _ (by simp only [List.length_map]; omega), List.length_map, hp, Nat.sub_self]
  rw [show 2 + 2 * n = (1 + 2 * n) + 1 by omega]
  rw [List.set_append_right _ _ (by simp only [List.length_map]; omega), List.length_map, hp]
  simp

theorem out_len {m Ln : Nat} {l : List (Int × Int)} {n : Nat} (hn : n ≤ l.length) (h : 1 + 2 * n ≤ Ln) : (outL m Ln n l).length = Ln := by
  simp [outL, pk_len, Nat.min_eq_left hn]; omega
theorem out_owns {w : World} {base g m Ln : Nat} {l : List (Int × Int)} (hm : l.length = m) (h : 1 + 2 * m ≤ Ln) (hL : Ln ≤ 2117) (hb : base ≤ g) (hg : w.heap[g]? = some (.cells (outCells m Ln m l) 28 (0, 0))) :
    w.ownsRow base 28 1 (.slice (some ⟨g, 0, none⟩) Ln Ln) Ln (u64s (packW Ln l)) := by
  have e : outL m Ln m l = packW Ln l := by unfold outL packW; rw [List.take_of_length_le (by omega), hm]
  have hl : (packW Ln l).length = Ln := by rw [← e]; exact out_len (by omega) h
  unfold outCells at hg
  rw [e] at hg
  refine ⟨by simp [hl], .inr ⟨g, Ln, _, rfl, hb, hg, Nat.le_refl _, by unfold maxLen; omega, by simp [hl], ?_⟩⟩
  simp [List.take_of_length_le, hl]

theorem grown_of_below {w w' : World} (h : Below w.heap.size w w') : w.grownBy w' none := ⟨h.os, h.tape, h.output, h.size, fun k hk _ => h.block k hk⟩

theorem out_get {m Ln : Nat} {l : List (Int × Int)} {n i : Nat} (hn : n ≤ l.length) (h : 1 + 2 * n ≤ Ln) (hi : i < Ln) : ∃ v, (outCells m Ln n l)[i]? = some v := by
  have hl := out_len (m := m) hn h
  exact ⟨_, Array.getElem?_eq_getElem (by simp [outCells, hl]; exact hi)⟩

theorem one_set {w W : World} {k p c : Int} {g i : Nat} (h : One w W k p c) (hg : w.heap.size < g) (v : Value) : One w (W.setCell ⟨g, i, none⟩ v) k p c :=
  ⟨h.1.setCell (p := ⟨g, i, none⟩) (by simp; omega) _, blk_far h.2 (by omega) _⟩

end Go.Proofs.YthigfjelgbdcfaaDoor

/-! Layer 16: pack, which goes up. -/
namespace Go.Proofs.YthigfjelgbdcfaaDoor
open Go.RowKit Go.Maps

theorem law_int : Keyed Tryd.prog 3 := int_keyed (by kernel_rfl : Tryd.prog.underlying 3 = some (.int .i64))
theorem zero_unit (w : World) : (zeroValue 104).run Tryd.prog w = .ok (.agg #[]) w := by kernel_rfl
theorem under_map : Tryd.prog.underlying 103 = some (.map 3 104) := by kernel_rfl

theorem wpack_long (k p c : Int) (sv : Value) (m : Nat) (cs : List Value) (w : World) (ho : Objs w) (h : Fit k p c) (hs : Sl w sv m cs) (hl : homeF k c + 2 * p < m) : Calls Tryd.prog 42 #[conf k p c, sv] w fun e w' => e = .panicked (oddCh 4) ∧ Below w.heap.size w w' := by
  obtain ⟨a, cap, rfl, _⟩ := hs
  have HF := Lib.hid h
  have HO := Lib.hid ho
  clear h ho
  go_enter Tryd.func42, Tryd.ntmps42
  go_wp2_with (first | (go_at_call 44; refine (rMost _ _ _ _ (HO.out.below (by repeat (first | exact Below.refl _ _ | assumption | refine Below.drew ?_ | refine Below.alloc ?_ (by first | omega | (simp; omega) | (simp; done)) _ | refine Below.setCell ?_ (by first | omega | (simp; omega) | (simp; done)) _))) HF.out).mono ?_; rintro e wcT1 ⟨rfl, hbc⟩; have T1 := one_call (one_start _ _ _ _) hbc; obtain ⟨c0, c1, c2, hs⟩ := one_cells T1; clear hbc) | (go_at_call_of 40 (Value.bool true); refine (want_yes _ _).mono ?_; rintro e w' ⟨rfl, rfl⟩) | (go_at_call_of 40 (Value.bool false); refine (want_no _ _).mono ?_; rintro e w' ⟨rfl, rfl⟩) | (go_at_call 40; rw [show decide ((m : Int) ≤ homeF k c + 2 * p) = false from decide_eq_false (by omega)]; refine (want_no _ _).mono ?_; rintro e w' ⟨rfl, rfl⟩))
  exact ⟨rfl, rfl, T1.1⟩

set_option maxRecDepth 100000 in
set_option maxHeartbeats 2000000 in
theorem wpack_yes (k p c : Int) (sv : Value) (l : List (Int × Int)) (m : Nat) (w : World) (ho : Objs w) (hm : l.length = m) (h : Fit k p c) (hs : Sl w sv m (wrs l)) (hl : (m : Int) ≤ homeF k c + 2 * p) (hw : ∀ x ∈ l, (Lit.int .i64 x.1).wf = true) :
    Calls Tryd.prog 42 #[conf k p c, sv] w fun e w' => ((PkOk k p c l m ∧ ∃ v, e = .returned v ∧ w'.ownsRow w.heap.size 28 1 v (logN k p c).toNat (u64s (packW (logN k p c).toNat l))) ∨ (¬ PkOk k p c l m ∧ e = .panicked (oddCh 1))) ∧ Below w.heap.size w w' := by
  obtain ⟨a, cap, rfl, hs⟩ := hs
  obtain ⟨i0, hi, hz0, hz1, hz2⟩ := info_parts word_info
  have hLB := logN_yes h
  have hHB := homeF_bd h
  obtain ⟨Ln, hLn⟩ : ∃ Ln : Nat, logN k p c = Ln := ⟨(logN k p c).toNat, by omega⟩
  have hge : 1 + 2 * m ≤ Ln := by omega
  have hLm : Ln ≤ 2117 := by have := logN_bd k p c; omega
  rw [hLn, Int.toNat_natCast]
  have HF := Lib.hid h
  have HS := Lib.hid hs
  have HM := Lib.hid hm
  have HO := Lib.hid ho
  have HW := Lib.hid hw
  have hm2 : m ≤ 1058 := by omega
  have CL : Hid (∀ w1, Objs w1 → Calls Tryd.prog 43 #[conf k p c] w1 fun e w' => e = .returned (.int .i64 (Ln : Int)) ∧ Below w1.heap.size w1 w') := Lib.hid (fun w1 h => hLn ▸ rLogSize k p c w1 h)
  have e1 : IntKind.u64.wrap (m : Int) = m := wu64 (by omega) (by omega)
  obtain ⟨Z, hZ⟩ : ∃ Z : Array Value, (u64s (List.replicate Ln 0)).toArray = Z := ⟨_, rfl⟩
  have hmk : ∀ w : World, (Instr.makeSlice 27 (.int .i64 (Ln : Int)) (.int .i64 (Ln : Int))).run Tryd.prog w = .ok (.slice (some ⟨w.heap.size, 0, none⟩) Ln Ln) (w.alloc (.cells Z 28)) := fun w => by
    have h := run_makeSlice (P := Tryd.prog) w 27 28 i0 _ under_words hi hz0 .i64 .i64 (Ln : Int) (Ln : Int) (by omega) (by omega) (by rw [hz1]; omega) (by rw [hz2]; omega) (by omega)
    simp only [Int.toNat_natCast, hz1, Nat.mul_one] at h
    rw [h, ← hZ, made_words]
  have hZc : ∀ w : World, (w.alloc (.cells Z 28)).cell? ⟨w.heap.size, 0, none⟩ = some (.int .u64 0) := fun w => blk_cell (World.alloc_heap_new w _) (by rw [← hZ, List.getElem?_toArray]; simp [List.getElem?_replicate]; omega)
  have hZf : ∀ w : World, (w.alloc (.cells Z 28)).frozen? ⟨w.heap.size, 0, none⟩ = false := fun w => blk_frozen (World.alloc_heap_new w _)
  have HZ := Lib.hid hZ
  clear hZ
  have hmm := @run_makeMap Tryd.prog
  clear h hs hm ho hw hLn hLB hHB
  go_enter Tryd.func42, Tryd.ntmps42
  go_wp2_with (first | (go_at_call 44; refine (rMost _ _ _ _ (HO.out.below (by repeat (first | exact Below.refl _ _ | assumption | refine Below.drew ?_ | refine Below.alloc ?_ (by first | omega | (simp; omega) | (simp; done)) _ | refine Below.setCell ?_ (by first | omega | (simp; omega) | (simp; done)) _))) HF.out).mono ?_; rintro e wcT1 ⟨rfl, hbc⟩; have T1 := one_call (one_start _ _ _ _) hbc; obtain ⟨c0, c1, c2, hs⟩ := one_cells T1; clear hbc) | (go_at_call_of 40 (Value.bool true); refine (want_yes _ _).mono ?_; rintro e w' ⟨rfl, rfl⟩) | (go_at_call_of 40 (Value.bool false); refine (want_no _ _).mono ?_; rintro e w' ⟨rfl, rfl⟩) | (go_at_call 43; refine (CL.out _ (HO.out.below T1.1)).mono ?_; rintro e wcT2 ⟨rfl, hbc⟩; have T2 := one_call (T1) hbc; obtain ⟨c0, c1, c2, hs⟩ := one_cells T2; clear hbc))
  have HT2 := Lib.hid T2
  obtain ⟨g, hg⟩ : ∃ g, wcT2.heap.size = g := ⟨_, rfl⟩
  rw [hg]
  have hgw : w.heap.size < g := by omega
  have q1 : (wcT2.alloc (.cells (Z.setIfInBounds 0 (.int .u64 m)) 28)).heap.size = g + 1 := by rw [← hg]; simp
  have S1 := Lib.hid (show One w ((wcT2.alloc (.cells (Z.setIfInBounds 0 (.int .u64 m)) 28)).alloc (.map #[] 0)) k p c from one_call (one_call T2 (blk_alloc _ _)) (blk_alloc _ _))
  have S2 := Lib.hid (show ((wcT2.alloc (.cells (Z.setIfInBounds 0 (.int .u64 m)) 28)).alloc (.map #[] 0)).heap[g]? = some (.cells (outCells m Ln 0 l) 28 (0, 0)) from blk_alloc' (by rw [← out_zero m Ln l (by omega), HZ.out]; exact alloc_at _ _ hg.symm))
  have S3 := Lib.hid (show ((wcT2.alloc (.cells (Z.setIfInBounds 0 (.int .u64 m)) 28)).alloc (.map #[] 0)).ownsMap Tryd.prog 3 unitElem (g + 1) 0 (Sd l 0) from by rw [Sd_zero, ← q1]; exact World.ownsMap_made _ _ _ _)
  clear T1 T2 c0 c1 c2 hs q1 hg hZc hZf hmk
  go_loopw [30] (fun i wr => ∃ n : Nat, n ≤ m ∧ i = .int .i64 n ∧ Hid (PkOk k p c l n) ∧ Hid (One w wr k p c) ∧ Hid (wr.heap[g]? = some (.cells (outCells m Ln n l) 28 (0, 0))) ∧ Hid (wr.ownsMap Tryd.prog 3 unitElem (g + 1) n (Sd l n))) (fun i _ => m - (intOf i).toNat)
  case atStart => exact ⟨0, by omega, rfl, Lib.hid (PkOk.zero _ _ _ _), S1, S2, S3⟩
  case round =>
    obtain ⟨n, hn, rfl, hok, h1, hout, hmap⟩ := hrel
    clear S1 S2 S3 HT2
    by_cases hlt : n = m
    · subst hlt
      go_wp2
      go_ret
      exact ⟨.inl ⟨hok.out, _, rfl, out_owns HM.out hge hLm (by omega) hout.out⟩, h1.out.1⟩
    · have hn' : n < m := by omega
      clear hn hlt
      obtain ⟨c0, c1, c2, hz⟩ := one_cells h1.out
      obtain ⟨b, o, rfl, k1⟩ := Sl.at HS.out (by omega)
      obtain ⟨⟨x1, x2⟩, hx⟩ : ∃ x, l[n]? = some x := ⟨_, List.getElem?_eq_getElem (by rw [HM.out]; exact hn')⟩
      have d1 : wr.cell? ⟨b, o + n * 2, none⟩ = some (.int .i64 x1) := by rw [Nat.mul_comm]; exact k1 wr h1.out.1 (2 * n) _ (wrs_at _ _ _ hx).1
      have d2 : wr.cell? ⟨b, o + n * 2 + 1, none⟩ = some (.int .u64 x2) := by rw [Nat.mul_comm]; exact k1 wr h1.out.1 (2 * n + 1) _ (wrs_at _ _ _ hx).2
      have HX := Lib.hid hx
      have hgl : g + 1 < wr.heap.size := hmap.out.lt
      have CP0 := Lib.hid (fun w1 h => wPlace k p c _ w1 h (wu_bd x1).1 (wu_bd x1).2)
      clear hx k1 HS
      cases hpl : placeB k p c (wu x1) with
      | false =>
        have CP : Hid (∀ w1, Objs w1 → Calls Tryd.prog 11 #[conf k p c, .int .u64 (IntKind.u64.wrap x1)] w1 fun e w' => e = .returned (.tuple #[.int .i64 0, .bool false]) ∧ Below w1.heap.size w1 w') := Lib.hid (fun w1 h => by have := CP0.out w1 h; rw [hpl] at this; exact this)
        have HP := Lib.hid hpl
        have hB0 := h1.out.1
        clear CP0 hpl
        have hkey : keyOf Tryd.prog 3 (.int .i64 x1) = some (.int .i64 x1) := keyOf_int_mk (by kernel_rfl : Tryd.prog.underlying 3 = some (.int .i64)) (HW.out _ (List.mem_of_getElem? HX.out))
        go_wp2_with (first | (go_at_call 11; refine (CP.out _ (HO.out.below (by repeat (first | exact Below.refl _ _ | assumption | refine Below.drew ?_ | refine Below.alloc ?_ (by first | omega | (simp; omega) | (simp; done)) _ | refine Below.setCell ?_ (by first | omega | (simp; omega) | (simp; done)) _)))).mono ?_; rintro e wp ⟨rfl, hbp⟩; have hwb : wp.heap[wr.heap.size]? = some (.cells #[.int .i64 x1, .int .u64 x2] 71 (0, 0)) := (hbp.block _ (by simp)).trans (World.alloc_heap_new wr _); have z1 := blk_cell hwb (i := 0) (v := .int .i64 x1) rfl; have z2 := blk_cell hwb (i := 1) (v := .int .u64 x2) rfl; have T3 := Lib.hid (one_call (one_call h1.out (blk_alloc _ _)) hbp); have hop := Lib.hid ((hbp.block g (by simp; omega)).trans (blk_alloc' hout.out)); have hmp := Lib.hid ((hmap.out.alloc _).kept (grown_of_below hbp) (by simp)); obtain ⟨c0, c1, c2, hzp⟩ := one_cells T3.out; have hzw : wr.heap.size < wp.heap.size := (Array.getElem?_eq_some_iff.1 hwb).1; clear hbp) | (at_lookup; refine wpList_lookup_own_unit _ rfl _ _ 103 rfl 3 104 law_int under_map (zero_unit _) (g + 1) n _ rfl hmp.out _ _ rfl hkey ?_) | (go_at_call_of 40 (Value.bool true); refine (want_yes _ _).mono ?_; rintro e w' ⟨rfl, rfl⟩) | (go_at_call_of 40 (Value.bool false); refine (want_no _ _).mono ?_; rintro e w' ⟨rfl, rfl⟩))
        exact ⟨rfl, .inr ⟨fun h => (by have := h.place hn' HX.out; rw [HP.out] at this; cases this), rfl⟩, T3.out.1.alloc T3.out.1.size _⟩
      | true =>
        have CP : Hid (∀ w1, Objs w1 → Calls Tryd.prog 11 #[conf k p c, .int .u64 (IntKind.u64.wrap x1)] w1 fun e w' => e = .returned (.tuple #[.int .i64 (wu x1), .bool true]) ∧ Below w1.heap.size w1 w') := Lib.hid (fun w1 h => by have := CP0.out w1 h; rw [hpl] at this; exact this)
        have HP := Lib.hid hpl
        have hB0 := h1.out.1
        clear CP0 hpl
        have hkey : keyOf Tryd.prog 3 (.int .i64 x1) = some (.int .i64 x1) := keyOf_int_mk (by kernel_rfl : Tryd.prog.underlying 3 = some (.int .i64)) (HW.out _ (List.mem_of_getElem? HX.out))
        cases htw : (l.take n).any (fun y => decide (y.1 = x1)) with
        | true =>
          have hh : Maps.has (Sd l n) (.int .i64 x1) = true := by rw [has_Sd]; exact htw
          have HT := Lib.hid htw
          clear htw
          go_wp2_with (first | (go_at_call 11; refine (CP.out _ (HO.out.below (by repeat (first | exact Below.refl _ _ | assumption | refine Below.drew ?_ | refine Below.alloc ?_ (by first | omega | (simp; omega) | (simp; done)) _ | refine Below.setCell ?_ (by first | omega | (simp; omega) | (simp; done)) _)))).mono ?_; rintro e wp ⟨rfl, hbp⟩; have hwb : wp.heap[wr.heap.size]? = some (.cells #[.int .i64 x1, .int .u64 x2] 71 (0, 0)) := (hbp.block _ (by simp)).trans (World.alloc_heap_new wr _); have z1 := blk_cell hwb (i := 0) (v := .int .i64 x1) rfl; have z2 := blk_cell hwb (i := 1) (v := .int .u64 x2) rfl; have T3 := Lib.hid (one_call (one_call h1.out (blk_alloc _ _)) hbp); have hop := Lib.hid ((hbp.block g (by simp; omega)).trans (blk_alloc' hout.out)); have hmp := Lib.hid ((hmap.out.alloc _).kept (grown_of_below hbp) (by simp)); obtain ⟨c0, c1, c2, hzp⟩ := one_cells T3.out; have hzw : wr.heap.size < wp.heap.size := (Array.getElem?_eq_some_iff.1 hwb).1; clear hbp) | (at_lookup; refine wpList_lookup_own_unit _ rfl _ _ 103 rfl 3 104 law_int under_map (zero_unit _) (g + 1) n _ rfl hmp.out _ _ rfl hkey ?_) | (go_at_call_of 40 (Value.bool true); refine (want_yes _ _).mono ?_; rintro e w' ⟨rfl, rfl⟩) | (go_at_call_of 40 (Value.bool false); refine (want_no _ _).mono ?_; rintro e w' ⟨rfl, rfl⟩))
          obtain ⟨j, y, hj, hy, hyx⟩ := any_take HT.out
          exact ⟨rfl, .inr ⟨fun h => h.twice hn' HX.out hj hy hyx, rfl⟩, T3.out.1.alloc T3.out.1.size _⟩
        | false =>
          have hh : Maps.has (Sd l n) (.int .i64 x1) = false := by rw [has_Sd]; exact htw
          have HT := Lib.hid (not_any_take htw)
          clear htw
          go_wp2_with (first | (go_at_call 11; refine (CP.out _ (HO.out.below (by repeat (first | exact Below.refl _ _ | assumption | refine Below.drew ?_ | refine Below.alloc ?_ (by first | omega | (simp; omega) | (simp; done)) _ | refine Below.setCell ?_ (by first | omega | (simp; omega) | (simp; done)) _)))).mono ?_; rintro e wp ⟨rfl, hbp⟩; have hwb : wp.heap[wr.heap.size]? = some (.cells #[.int .i64 x1, .int .u64 x2] 71 (0, 0)) := (hbp.block _ (by simp)).trans (World.alloc_heap_new wr _); have z1 := blk_cell hwb (i := 0) (v := .int .i64 x1) rfl; have z2 := blk_cell hwb (i := 1) (v := .int .u64 x2) rfl; have T3 := Lib.hid (one_call (one_call h1.out (blk_alloc _ _)) hbp); have hop := Lib.hid ((hbp.block g (by simp; omega)).trans (blk_alloc' hout.out)); have hmp := Lib.hid ((hmap.out.alloc _).kept (grown_of_below hbp) (by simp)); obtain ⟨c0, c1, c2, hzp⟩ := one_cells T3.out; have hzw : wr.heap.size < wp.heap.size := (Array.getElem?_eq_some_iff.1 hwb).1; clear hbp) | (at_lookup; refine wpList_lookup_own_unit _ rfl _ _ 103 rfl 3 104 law_int under_map (zero_unit _) (g + 1) n _ rfl hmp.out _ _ rfl hkey ?_) | (go_at_call_of 40 (Value.bool true); refine (want_yes _ _).mono ?_; rintro e w' ⟨rfl, rfl⟩) | (go_at_call_of 40 (Value.bool false); refine (want_no _ _).mono ?_; rintro e w' ⟨rfl, rfl⟩) | (at_mapUpdate; refine wpList_mapUpdate_own _ rfl _ _ _ 103 rfl 3 104 law_int under_map (unitElem (H := Unit)) (g + 1) n _ rfl (hmp.out.alloc _) (by unfold maxLen; omega) _ _ _ rfl rfl hkey _ [] unitElem_mk ?_; intro w1 hown1 hgrow1))
          have hq1 : w1.heap[g]? = some (.cells (outCells m Ln n l) 28 (0, 0)) := (hgrow1.block g (by simp; omega) (by simp)).trans (blk_alloc' hop.out)
          have hwb1 : w1.heap[wr.heap.size]? = some (.cells #[.int .i64 x1, .int .u64 x2] 71 (0, 0)) := (hgrow1.block _ (by simp; omega) (by simp; omega)).trans (blk_alloc' hwb)
          have y1 := blk_cell hwb1 (i := 0) (v := .int .i64 x1) rfl
          have y2 := blk_cell hwb1 (i := 1) (v := .int .u64 x2) rfl
          have T4 := Lib.hid (show One w w1 k p c from one_grown (one_call T3.out (blk_alloc _ _)) hgrow1 (fun r e => by cases e; omega))
          have hm1 := Lib.hid (show w1.ownsMap Tryd.prog 3 unitElem (g + 1) (n + 1) (Sd l (n + 1)) from Sd_succ HX.out ▸ hown1)
          obtain ⟨v1, o1⟩ := out_get (m := m) (Ln := Ln) (l := l) (n := n) (i := 1 + 2 * n) (by rw [HM.out]; omega) (by omega) (by omega)
          obtain ⟨v2, o2⟩ := out_get (m := m) (Ln := Ln) (l := l) (n := n) (i := 2 + 2 * n) (by rw [HM.out]; omega) (by omega) (by omega)
          replace o1 := blk_cell hq1 o1
          replace o2 := blk_cell hq1 o2
          have g1 := blk_frozen hq1 (i := 1 + 2 * n)
          have g2 := blk_frozen hq1 (i := 2 + 2 * n)
          have HQ1 := Lib.hid hq1
          have t1 : ((1 : Int) + 2 * (n : Int)).toNat = 1 + 2 * n := by omega
          have t2 : ((2 : Int) + 2 * (n : Int)).toNat = 2 + 2 * n := by omega
          have l1 : (0 : Int) ≤ 1 + 2 * (n : Int) := by omega
          have l2 : (0 : Int) ≤ 2 + 2 * (n : Int) := by omega
          have l3 : (1 : Int) + 2 * (n : Int) < Ln := by omega
          have l4 : (2 : Int) + 2 * (n : Int) < Ln := by omega
          have r0 : IntKind.i64.wrap (2 * (n : Int)) = 2 * n := w64 (by omega) (by omega)
          have r1 : IntKind.i64.wrap (1 + 2 * (n : Int)) = 1 + 2 * n := w64 (by omega) (by omega)
          have r2 : IntKind.i64.wrap (2 + 2 * (n : Int)) = 2 + 2 * n := w64 (by omega) (by omega)
          have hgz : g + 1 < w1.heap.size := hown1.lt
          have hne : g ≠ wr.heap.size := by omega
          clear hgrow1 hown1 hq1 hwb1 hmp hop hwb z1 z2 T3 c0 c1 c2 d1 d2
          simp only [Act.put, List.setIfInBounds_toArray, List.set_cons_succ, List.set_cons_zero]
          go_region_held3 (fun W => W.cell? ⟨wr.heap.size, 0, none⟩ = some (.int .i64 x1) ∧ W.cell? ⟨wr.heap.size, 1, none⟩ = some (.int .u64 x2)) (go_keep) (fail)
          have F1 := Lib.hid (hok.out.succ HX.out HP.out HT.out)
          have F2 := Lib.hid (show One w (((w1.setCell ⟨g, 1 + 2 * n, none⟩ (.int .u64 (IntKind.u64.wrap x1))).setCell ⟨g, 2 + 2 * n, none⟩ (.int .u64 x2)).drew) k p c from one_call (one_set (g := g) (i := 2 + 2 * n) (one_set (g := g) (i := 1 + 2 * n) T4.out hgw _) hgw _) (Below.refl _ _).drew)
          have F3 := Lib.hid (show (((w1.setCell ⟨g, 1 + 2 * n, none⟩ (.int .u64 (IntKind.u64.wrap x1))).setCell ⟨g, 2 + 2 * n, none⟩ (.int .u64 x2)).drew).heap[g]? = some (.cells (outCells m Ln (n + 1) l) 28 (0, 0)) from by rw [← out_step (m := m) (Ln := Ln) HX.out (by omega)]; exact blk_set (blk_set HQ1.out _) _)
          have F4 := Lib.hid (show (((w1.setCell ⟨g, 1 + 2 * n, none⟩ (.int .u64 (IntKind.u64.wrap x1))).setCell ⟨g, 2 + 2 * n, none⟩ (.int .u64 x2)).drew).ownsMap Tryd.prog 3 unitElem (g + 1) (n + 1) (Sd l (n + 1)) from ((hm1.out.setCell (by simp) _).setCell (by simp) _).drew)
          clear T4 hm1 HQ1 hok h1 hout hmap
          go_wp2
          go_roundw
          case rel => exact ⟨n + 1, by omega, by go_num, F1, F2, F3, F4⟩
          case measure => simp [intOf]; omega

end Go.Proofs.YthigfjelgbdcfaaDoor

/-! Layer 16: Pack. -/
namespace Go.Proofs.YthigfjelgbdcfaaDoor
open Go.RowKit Go.Maps

theorem wPack_conf (k p c : Int) (sv : Value) (w : World) (h : ¬ Fit k p c) : Calls Tryd.prog 13 #[conf k p c, sv] w fun e w' => e = .returned (packE 5) ∧ Below w.heap.size w w' := by
  have hF := fitsB_no h
  clear h
  go_enter_defers Tryd.func13, Tryd.ntmps13
  go_wp2_with (first | (go_at_call 41; refine (rFits _ _ _ _).mono ?_; rintro e wcT1 ⟨rfl, hbc⟩; have T1 := two_call (two_start _ _ _ _) hbc; obtain ⟨c0, c1, c2, c3, c4, hs⟩ := two_cells T1; clear hbc) | (go_at_call_of 40 (Value.bool true); refine (want_yes _ _).mono ?_; rintro e w' ⟨rfl, rfl⟩) | (go_at_call_of 40 (Value.bool false); refine (want_no _ _).mono ?_; rintro e w' ⟨rfl, rfl⟩))
  refine leaves_cons (f := 39) (args := #[.pointer (some ⟨w.heap.size + 1, 0, none⟩)]) (by simp) (by simp [go_sem]) ?_; have TT := T1; obtain ⟨_, _, _, d3, d4, ds⟩ := two_cells TT; refine (caught_panic (w.heap.size + 1) 5 _ _ ds d3 d4).mono ?_; rintro e u' w'' ⟨rfl, rfl, hB⟩; have T9 := two_call (two_set TT 5) (by simpa using hB); have hc := (two_cells T9).2.2.2.1; simp [Leaves, settle, results, packE, Tryd.results13, go_sem, hc]
  exact T9.1

theorem wPack_long (k p c : Int) (sv : Value) (m : Nat) (cs : List Value) (w : World) (ho : Objs w) (h : Fit k p c) (hs : Sl w sv m cs) (hl : homeF k c + 2 * p < m) : Calls Tryd.prog 13 #[conf k p c, sv] w fun e w' => e = .returned (packE 4) ∧ Below w.heap.size w w' := by
  have hF := fitsB_yes h
  have CP : Hid (∀ w1, Below w.heap.size w w1 → Calls Tryd.prog 42 #[conf k p c, sv] w1 fun e w' => e = .panicked (oddCh 4) ∧ Below w1.heap.size w1 w') := Lib.hid (fun w1 hb => wpack_long k p c sv m cs w1 (ho.below hb) h (hs.below hb) hl)
  clear h hs hl ho
  go_enter_defers Tryd.func13, Tryd.ntmps13
  go_wp2_with (first | (go_at_call 41; refine (rFits _ _ _ _).mono ?_; rintro e wcT1 ⟨rfl, hbc⟩; have T1 := two_call (two_start _ _ _ _) hbc; obtain ⟨c0, c1, c2, c3, c4, hs⟩ := two_cells T1; clear hbc) | (go_at_call_of 40 (Value.bool true); refine (want_yes _ _).mono ?_; rintro e w' ⟨rfl, rfl⟩) | (go_at_call_of 40 (Value.bool false); refine (want_no _ _).mono ?_; rintro e w' ⟨rfl, rfl⟩) | (go_at_call 42; refine (CP.out _ T1.1).mono ?_; rintro e wcT2 ⟨rfl, hbc⟩; have T2 := two_call (T1) hbc; obtain ⟨c0, c1, c2, c3, c4, hs⟩ := two_cells T2; clear hbc))
  refine leaves_cons (f := 39) (args := #[.pointer (some ⟨w.heap.size + 1, 0, none⟩)]) (by simp) (by simp [go_sem]) ?_; have TT := T2; obtain ⟨_, _, _, d3, d4, ds⟩ := two_cells TT; refine (caught_panic (w.heap.size + 1) 4 _ _ ds d3 d4).mono ?_; rintro e u' w'' ⟨rfl, rfl, hB⟩; have T9 := two_call (two_set TT 4) (by simpa using hB); have hc := (two_cells T9).2.2.2.1; simp [Leaves, settle, results, packE, Tryd.results13, go_sem, hc]
  exact T9.1

theorem wPack_bad (k p c : Int) (sv : Value) (l : List (Int × Int)) (m : Nat) (w : World) (ho : Objs w) (hm : l.length = m) (h : Fit k p c) (hs : Sl w sv m (wrs l)) (hl : (m : Int) ≤ homeF k c + 2 * p) (hw : ∀ x ∈ l, (Lit.int .i64 x.1).wf = true) (hb : ¬ PkOk k p c l m) :
    Calls Tryd.prog 13 #[conf k p c, sv] w fun e w' => e = .returned (packE 1) ∧ Below w.heap.size w w' := by
  have hF := fitsB_yes h
  have CP : Hid (∀ w1, Below w.heap.size w w1 → Calls Tryd.prog 42 #[conf k p c, sv] w1 fun e w' => e = .panicked (oddCh 1) ∧ Below w1.heap.size w1 w') := Lib.hid (fun w1 hB => (wpack_yes k p c sv l m w1 (ho.below hB) hm h (hs.below hB) hl hw).mono (by rintro e w' ⟨⟨h1, _⟩ | ⟨_, h2⟩, h3⟩; exact absurd h1 hb; exact ⟨h2, h3⟩))
  clear h hs hl ho hm hw hb
  go_enter_defers Tryd.func13, Tryd.ntmps13
  go_wp2_with (first | (go_at_call 41; refine (rFits _ _ _ _).mono ?_; rintro e wcT1 ⟨rfl, hbc⟩; have T1 := two_call (two_start _ _ _ _) hbc; obtain ⟨c0, c1, c2, c3, c4, hs⟩ := two_cells T1; clear hbc) | (go_at_call_of 40 (Value.bool true); refine (want_yes _ _).mono ?_; rintro e w' ⟨rfl, rfl⟩) | (go_at_call_of 40 (Value.bool false); refine (want_no _ _).mono ?_; rintro e w' ⟨rfl, rfl⟩) | (go_at_call 42; refine (CP.out _ T1.1).mono ?_; rintro e wcT2 ⟨rfl, hbc⟩; have T2 := two_call (T1) hbc; obtain ⟨c0, c1, c2, c3, c4, hs⟩ := two_cells T2; clear hbc))
  refine leaves_cons (f := 39) (args := #[.pointer (some ⟨w.heap.size + 1, 0, none⟩)]) (by simp) (by simp [go_sem]) ?_; have TT := T2; obtain ⟨_, _, _, d3, d4, ds⟩ := two_cells TT; refine (caught_panic (w.heap.size + 1) 1 _ _ ds d3 d4).mono ?_; rintro e u' w'' ⟨rfl, rfl, hB⟩; have T9 := two_call (two_set TT 1) (by simpa using hB); have hc := (two_cells T9).2.2.2.1; simp [Leaves, settle, results, packE, Tryd.results13, go_sem, hc]
  exact T9.1

theorem wPack_ok (k p c : Int) (sv : Value) (l : List (Int × Int)) (m : Nat) (w : World) (ho : Objs w) (hm : l.length = m) (h : Fit k p c) (hs : Sl w sv m (wrs l)) (hl : (m : Int) ≤ homeF k c + 2 * p) (hw : ∀ x ∈ l, (Lit.int .i64 x.1).wf = true) (hb : PkOk k p c l m) :
    Calls Tryd.prog 13 #[conf k p c, sv] w fun e w' => (∃ v, e = .returned (.tuple #[v, .int .i64 0]) ∧ w'.ownsRow w.heap.size 28 1 v (logN k p c).toNat (u64s (packW (logN k p c).toNat l))) ∧ Below w.heap.size w w' := by
  have hF := fitsB_yes h
  have CP : Hid (∀ w1, Below w.heap.size w w1 → Calls Tryd.prog 42 #[conf k p c, sv] w1 fun e w' => (∃ v, e = .returned v ∧ w'.ownsRow w1.heap.size 28 1 v (logN k p c).toNat (u64s (packW (logN k p c).toNat l))) ∧ Below w1.heap.size w1 w') := Lib.hid (fun w1 hB => (wpack_yes k p c sv l m w1 (ho.below hB) hm h (hs.below hB) hl hw).mono (by rintro e w' ⟨⟨_, h1⟩ | ⟨h2, _⟩, h3⟩; exact ⟨h1, h3⟩; exact absurd hb h2))
  clear h hs hl ho hm hw hb
  go_enter_defers Tryd.func13, Tryd.ntmps13
  go_wp2_with (first | (go_at_call 41; refine (rFits _ _ _ _).mono ?_; rintro e wcT1 ⟨rfl, hbc⟩; have T1 := two_call (two_start _ _ _ _) hbc; obtain ⟨c0, c1, c2, c3, c4, hs⟩ := two_cells T1; clear hbc) | (go_at_call_of 40 (Value.bool true); refine (want_yes _ _).mono ?_; rintro e w' ⟨rfl, rfl⟩) | (go_at_call_of 40 (Value.bool false); refine (want_no _ _).mono ?_; rintro e w' ⟨rfl, rfl⟩) | (go_at_call 42; refine (CP.out _ T1.1).mono ?_; rintro e w2 ⟨⟨v, rfl, hv⟩, hbc⟩; have T2 := two_call T1 hbc; obtain ⟨c0, c1, c2, c3, c4, hs⟩ := two_cells T2; have HV := Lib.hid hv; clear hbc hv))
  refine leaves_cons (f := 39) (args := #[.pointer (some ⟨w.heap.size + 1, 0, none⟩)]) (by simp) (by simp [go_sem]) ?_
  refine (caught_idle (w.heap.size + 1) _).mono ?_
  rintro e u' w'' ⟨rfl, rfl, rfl⟩
  have hc := (two_cells (two_set T2 0)).2.2.2.1
  simp [Leaves, settle, results, Tryd.results13, go_sem, hc]
  exact ⟨owns_base (owns_set HV.out T2.2.2 (by decide) _ _) T1.1.size, (two_set T2 0).1⟩

end Go.Proofs.YthigfjelgbdcfaaDoor

/-! Layer 16, plain: the writes of a log's words. -/
namespace Go.Proofs.YthigfjelgbdcfaaDoor
open Go.RowKit

def unL (ws : List Int) (q : Nat) : List (Int × Int) := (List.range q).map fun i => (ws.getD (1 + 2 * i) 0, ws.getD (2 + 2 * i) 0)
theorem unL_len (ws : List Int) (q : Nat) : (unL ws q).length = q := by simp [unL]
theorem unL_succ (ws : List Int) (q : Nat) : unL ws (q + 1) = unL ws q ++ [(ws.getD (1 + 2 * q) 0, ws.getD (2 + 2 * q) 0)] := by simp [unL, List.range_succ]
theorem wrs_append : ∀ a b : List (Int × Int), wrs (a ++ b) = wrs a ++ wrs b
  | [], b => rfl
  | x :: r, b => by simp [wrs, wrs_append r b]
/-- the first n places are right -/
def UnPl (k p c : Int) (ws : List Int) (n : Nat) : Prop := ∀ i, i < n → placeB k p c (ws.getD (1 + 2 * i) 0) = true
theorem UnPl.succ {k p c : Int} {ws : List Int} {n : Nat} (h : UnPl k p c ws n) (h1 : placeB k p c (ws.getD (1 + 2 * n) 0) = true) : UnPl k p c ws (n + 1) := fun i hi => by
  rcases Nat.lt_or_ge i n with h2 | h2
  · exact h i h2
  · have : i = n := by omega
    subst this; exact h1
/-- a log's words are right, and these are its writes -/
def UnOk (k p c : Int) (Ln : Nat) (ws : List Int) (q : Nat) : Prop := UnPl k p c ws q ∧ PkOk k p c (unL ws q) q ∧ packW Ln (unL ws q) = ws
theorem place_bd {k p c x : Int} (h : placeB k p c x = true) : x ≤ 34979 := by
  have := of_decide_eq_true h
  have := sizeN_bd k p c
  omega
theorem unL_wf {k p c : Int} {ws : List Int} {q : Nat} (h : UnPl k p c ws q) (hu : ∀ j, 0 ≤ ws.getD j 0) : ∀ x ∈ unL ws q, (Lit.int .i64 x.1).wf = true := by
  intro x hx
  obtain ⟨i, hi, rfl⟩ := List.mem_map.1 hx
  have h1 := place_bd (h i (by simpa using hi))
  have h2 := hu (1 + 2 * i)
  exact WalkArith.wf_i64 (by omega)

end Go.Proofs.YthigfjelgbdcfaaDoor
