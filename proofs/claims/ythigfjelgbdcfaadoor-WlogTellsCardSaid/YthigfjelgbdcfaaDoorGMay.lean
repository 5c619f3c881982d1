/- The contracts of the reference's may, Log and Wipe, of cells.Store, and the conditions of wlog's log. -/
import Derived.Test.YthigfjelgbdcfaaDoorGUnW

set_option linter.unusedSimpArgs false
set_option linter.unusedVariables false

/-! Layer 16: the reference's may. -/
namespace Go.Proofs.YthigfjelgbdcfaaDoor
open Go.RowKit Go.Maps

theorem fMay_conf (k p c q : Int) (a : Option Addr) (n cap : Nat) (w : World) (h : ¬ Fit k p c) : Calls Tryd.prog 50 #[conf k p c, .agg #[.slice a n cap], .int .i64 q] w fun e w' => e = .returned (.int .i64 5) ∧ Below w.heap.size w w' := by
  have hF := fitsB_no h
  clear h
  go_enter Tryd.func50, Tryd.ntmps50
  go_wp2_with (first | (go_at_call 33; refine (fFits _ _ _ _).mono ?_; rintro e wc ⟨rfl, hbc⟩; have hBc : Below w.heap.size w wc := Below.trans (by repeat (first | exact Below.refl _ _ | assumption | refine Below.drew ?_ | refine Below.alloc ?_ (by first | omega | (simp; omega) | (simp; done)) _ | refine Below.setCell ?_ (by first | omega | (simp; omega) | (simp; done)) _)) (hbc.mono (by first | omega | (simp; omega) | (simp; done))); obtain ⟨hcc, hfc⟩ := bcell hbc; have hzc := hbc.size; try simp at hzc; try (have hz0' : w.heap.size < wc.heap.size := (by omega)); try (have hz1' : w.heap.size + 1 < wc.heap.size := (by omega)); try (have hz2' : w.heap.size + 1 + 1 < wc.heap.size := (by omega))))
  go_ret
  exact ⟨rfl, (by repeat (first | exact Below.refl _ _ | assumption | refine Below.drew ?_ | refine Below.alloc ?_ (by first | omega | (simp; omega) | (simp; done)) _ | refine Below.setCell ?_ (by first | omega | (simp; omega) | (simp; done)) _))⟩

set_option maxHeartbeats 4000000 in
theorem fMay_len (k p c q : Int) (a : Option Addr) (n cap : Nat) (w : World) (h : Fit k p c) (hn : (n : Int) ≠ sizeN k p c) : Calls Tryd.prog 50 #[conf k p c, .agg #[.slice a n cap], .int .i64 q] w fun e w' => e = .returned (.int .i64 1) ∧ Below w.heap.size w w' := by
  have hF := fitsB_yes h
  have CS : Hid (∀ w1, Calls Tryd.prog 29 #[conf k p c] w1 fun e w' => e = .returned (.int .i64 (sizeN k p c)) ∧ Below w1.heap.size w1 w') := Lib.hid (fun w1 => fSize k p c w1)
  have h1 : ((n : Int) != sizeN k p c) = true := by simpa using hn
  clear hn
  clear h
  go_enter Tryd.func50, Tryd.ntmps50
  go_wp2_with (first | (go_at_call 33; refine (fFits _ _ _ _).mono ?_; rintro e wc ⟨rfl, hbc⟩; have hBc : Below w.heap.size w wc := Below.trans (by repeat (first | exact Below.refl _ _ | assumption | refine Below.drew ?_ | refine Below.alloc ?_ (by first | omega | (simp; omega) | (simp; done)) _ | refine Below.setCell ?_ (by first | omega | (simp; omega) | (simp; done)) _)) (hbc.mono (by simp; omega)); have b0 : wc.heap[w.heap.size]? = some (.cells #[.int .i64 k, .int .i64 p, .int .i64 c] 24) := (hbc.block _ (by simp; omega)).trans (blk_alloc' (World.alloc_heap_new w _)); have b1 : wc.heap[w.heap.size + 1]? = some (.cells #[.slice a n cap] 32 (0, 0)) := (hbc.block _ (by simp)).trans (alloc_at _ _ (by simp)); have c0 := blk_cell b0 (i := 0) (v := .int .i64 k) rfl; have c1 := blk_cell b0 (i := 1) (v := .int .i64 p) rfl; have c2 := blk_cell b0 (i := 2) (v := .int .i64 c) rfl; have m0 := blk_cell b1 (i := 0) (v := .slice a n cap) rfl; have z1 : w.heap.size + 1 < wc.heap.size := (Array.getElem?_eq_some_iff.1 b1).1; have z0 : w.heap.size < wc.heap.size := (by omega); clear hbc b0 b1))
  have hrg := regrown_cell wc
  refine wp_region_quiet_below (by kernel_rfl) (by kernel_rfl) ?_
  repeat (quiet_step (exact Calls.regrown_of (CS.out _)))
  refine wpQuiet_nil ?_; intro wq hwq; obtain ⟨pq, hpq⟩ := hwq
  have hB : Below w.heap.size w wq := hBc.trans ((hpq ▸ below_regrown _ _ _ : Below _ wc wq).mono (by omega))
  clear hrg hpq
  go_wp2
  go_ret
  exact ⟨rfl, hB⟩

set_option maxHeartbeats 4000000 in
theorem fMay_neg (k p c q : Int) (a : Option Addr) (n cap : Nat) (w : World) (h : Fit k p c) (hn : (n : Int) = sizeN k p c) (hq : q < 0) : Calls Tryd.prog 50 #[conf k p c, .agg #[.slice a n cap], .int .i64 q] w fun e w' => e = .returned (.int .i64 1) ∧ Below w.heap.size w w' := by
  have hF := fitsB_yes h
  have CS : Hid (∀ w1, Calls Tryd.prog 29 #[conf k p c] w1 fun e w' => e = .returned (.int .i64 (sizeN k p c)) ∧ Below w1.heap.size w1 w') := Lib.hid (fun w1 => fSize k p c w1)
  have h1 : ((n : Int) != sizeN k p c) = false := by simpa using hn
  have h2 : decide (q < 0) = true := decide_eq_true hq
  clear hn hq
  clear h
  go_enter Tryd.func50, Tryd.ntmps50
  go_wp2_with (first | (go_at_call 33; refine (fFits _ _ _ _).mono ?_; rintro e wc ⟨rfl, hbc⟩; have hBc : Below w.heap.size w wc := Below.trans (by repeat (first | exact Below.refl _ _ | assumption | refine Below.drew ?_ | refine Below.alloc ?_ (by first | omega | (simp; omega) | (simp; done)) _ | refine Below.setCell ?_ (by first | omega | (simp; omega) | (simp; done)) _)) (hbc.mono (by simp; omega)); have b0 : wc.heap[w.heap.size]? = some (.cells #[.int .i64 k, .int .i64 p, .int .i64 c] 24) := (hbc.block _ (by simp; omega)).trans (blk_alloc' (World.alloc_heap_new w _)); have b1 : wc.heap[w.heap.size + 1]? = some (.cells #[.slice a n cap] 32 (0, 0)) := (hbc.block _ (by simp)).trans (alloc_at _ _ (by simp)); have c0 := blk_cell b0 (i := 0) (v := .int .i64 k) rfl; have c1 := blk_cell b0 (i := 1) (v := .int .i64 p) rfl; have c2 := blk_cell b0 (i := 2) (v := .int .i64 c) rfl; have m0 := blk_cell b1 (i := 0) (v := .slice a n cap) rfl; have z1 : w.heap.size + 1 < wc.heap.size := (Array.getElem?_eq_some_iff.1 b1).1; have z0 : w.heap.size < wc.heap.size := (by omega); clear hbc b0 b1))
  have hrg := regrown_cell wc
  refine wp_region_quiet_below (by kernel_rfl) (by kernel_rfl) ?_
  repeat (quiet_step (exact Calls.regrown_of (CS.out _)))
  refine wpQuiet_nil ?_; intro wq hwq; obtain ⟨pq, hpq⟩ := hwq
  have hB : Below w.heap.size w wq := hBc.trans ((hpq ▸ below_regrown _ _ _ : Below _ wc wq).mono (by omega))
  clear hrg hpq
  go_wp2
  go_ret
  exact ⟨rfl, hB⟩

set_option maxHeartbeats 4000000 in
theorem fMay_big (k p c q : Int) (a : Option Addr) (n cap : Nat) (w : World) (h : Fit k p c) (hn : (n : Int) = sizeN k p c) (hq : 0 ≤ q) (hp : p ≤ q) : Calls Tryd.prog 50 #[conf k p c, .agg #[.slice a n cap], .int .i64 q] w fun e w' => e = .returned (.int .i64 1) ∧ Below w.heap.size w w' := by
  have hF := fitsB_yes h
  have CS : Hid (∀ w1, Calls Tryd.prog 29 #[conf k p c] w1 fun e w' => e = .returned (.int .i64 (sizeN k p c)) ∧ Below w1.heap.size w1 w') := Lib.hid (fun w1 => fSize k p c w1)
  have h1 : ((n : Int) != sizeN k p c) = false := by simpa using hn
  have h2 : decide (q < 0) = false := decide_eq_false (by omega)
  have h3 : decide (p ≤ q) = true := decide_eq_true hp
  clear hn
  clear h
  go_enter Tryd.func50, Tryd.ntmps50
  go_wp2_with (first | (go_at_call 33; refine (fFits _ _ _ _).mono ?_; rintro e wc ⟨rfl, hbc⟩; have hBc : Below w.heap.size w wc := Below.trans (by repeat (first | exact Below.refl _ _ | assumption | refine Below.drew ?_ | refine Below.alloc ?_ (by first | omega | (simp; omega) | (simp; done)) _ | refine Below.setCell ?_ (by first | omega | (simp; omega) | (simp; done)) _)) (hbc.mono (by simp; omega)); have b0 : wc.heap[w.heap.size]? = some (.cells #[.int .i64 k, .int .i64 p, .int .i64 c] 24) := (hbc.block _ (by simp; omega)).trans (blk_alloc' (World.alloc_heap_new w _)); have b1 : wc.heap[w.heap.size + 1]? = some (.cells #[.slice a n cap] 32 (0, 0)) := (hbc.block _ (by simp)).trans (alloc_at _ _ (by simp)); have c0 := blk_cell b0 (i := 0) (v := .int .i64 k) rfl; have c1 := blk_cell b0 (i := 1) (v := .int .i64 p) rfl; have c2 := blk_cell b0 (i := 2) (v := .int .i64 c) rfl; have m0 := blk_cell b1 (i := 0) (v := .slice a n cap) rfl; have z1 : w.heap.size + 1 < wc.heap.size := (Array.getElem?_eq_some_iff.1 b1).1; have z0 : w.heap.size < wc.heap.size := (by omega); clear hbc b0 b1))
  have hrg := regrown_cell wc
  refine wp_region_quiet_below (by kernel_rfl) (by kernel_rfl) ?_
  repeat (quiet_step (exact Calls.regrown_of (CS.out _)))
  refine wpQuiet_nil ?_; intro wq hwq; obtain ⟨pq, hpq⟩ := hwq
  have hB : Below w.heap.size w wq := hBc.trans ((hpq ▸ below_regrown _ _ _ : Below _ wc wq).mono (by omega))
  clear hrg hpq
  go_wp2
  go_ret
  exact ⟨rfl, hB⟩

set_option maxHeartbeats 4000000 in
theorem fMay_ok (k p c q : Int) (a : Option Addr) (n cap : Nat) (w : World) (h : Fit k p c) (hn : (n : Int) = sizeN k p c) (hq : 0 ≤ q) (hp : q < p) : Calls Tryd.prog 50 #[conf k p c, .agg #[.slice a n cap], .int .i64 q] w fun e w' => e = .returned (.int .i64 0) ∧ Below w.heap.size w w' := by
  have hF := fitsB_yes h
  have CS : Hid (∀ w1, Calls Tryd.prog 29 #[conf k p c] w1 fun e w' => e = .returned (.int .i64 (sizeN k p c)) ∧ Below w1.heap.size w1 w') := Lib.hid (fun w1 => fSize k p c w1)
  have h1 : ((n : Int) != sizeN k p c) = false := by simpa using hn
  have h2 : decide (q < 0) = false := decide_eq_false (by omega)
  have h3 : decide (p ≤ q) = false := decide_eq_false (by omega)
  clear hn
  clear h
  go_enter Tryd.func50, Tryd.ntmps50
  go_wp2_with (first | (go_at_call 33; refine (fFits _ _ _ _).mono ?_; rintro e wc ⟨rfl, hbc⟩; have hBc : Below w.heap.size w wc := Below.trans (by repeat (first | exact Below.refl _ _ | assumption | refine Below.drew ?_ | refine Below.alloc ?_ (by first | omega | (simp; omega) | (simp; done)) _ | refine Below.setCell ?_ (by first | omega | (simp; omega) | (simp; done)) _)) (hbc.mono (by simp; omega)); have b0 : wc.heap[w.heap.size]? = some (.cells #[.int .i64 k, .int .i64 p, .int .i64 c] 24) := (hbc.block _ (by simp; omega)).trans (blk_alloc' (World.alloc_heap_new w _)); have b1 : wc.heap[w.heap.size + 1]? = some (.cells #[.slice a n cap] 32 (0, 0)) := (hbc.block _ (by simp)).trans (alloc_at _ _ (by simp)); have c0 := blk_cell b0 (i := 0) (v := .int .i64 k) rfl; have c1 := blk_cell b0 (i := 1) (v := .int .i64 p) rfl; have c2 := blk_cell b0 (i := 2) (v := .int .i64 c) rfl; have m0 := blk_cell b1 (i := 0) (v := .slice a n cap) rfl; have z1 : w.heap.size + 1 < wc.heap.size := (Array.getElem?_eq_some_iff.1 b1).1; have z0 : w.heap.size < wc.heap.size := (by omega); clear hbc b0 b1))
  have hrg := regrown_cell wc
  refine wp_region_quiet_below (by kernel_rfl) (by kernel_rfl) ?_
  repeat (quiet_step (exact Calls.regrown_of (CS.out _)))
  refine wpQuiet_nil ?_; intro wq hwq; obtain ⟨pq, hpq⟩ := hwq
  have hB : Below w.heap.size w wq := hBc.trans ((hpq ▸ below_regrown _ _ _ : Below _ wc wq).mono (by omega))
  clear hrg hpq
  go_wp2
  go_ret
  exact ⟨rfl, hB⟩

end Go.Proofs.YthigfjelgbdcfaaDoor

/-! Layer 16: the reference's Log. -/
namespace Go.Proofs.YthigfjelgbdcfaaDoor
open Go.RowKit Go.Maps

abbrev memBox (a : Option Addr) (n cap : Nat) : Obj := .cells #[.slice a n cap] 32 (0, 0)
/-- a frame's boxes of the configuration and of memory -/
def Mm (w W : World) (k p c : Int) (a : Option Addr) (n cap : Nat) : Prop := One w W k p c ∧ W.heap[w.heap.size + 1]? = some (memBox a n cap)
theorem mm_start (w : World) (k p c : Int) (a : Option Addr) (n cap : Nat) : Mm w ((w.alloc (.cells #[.int .i64 k, .int .i64 p, .int .i64 c] 24)).alloc (memBox a n cap)) k p c a n cap := ⟨one_call (one_start w k p c) (blk_alloc _ _), alloc_at _ _ (by simp)⟩
theorem mm_call {w W W' : World} {k p c : Int} {a : Option Addr} {n cap : Nat} (h : Mm w W k p c a n cap) (hb : Below W.heap.size W W') : Mm w W' k p c a n cap :=
  ⟨one_call h.1 hb, (hb.block _ (Array.getElem?_eq_some_iff.1 h.2).1).trans h.2⟩
theorem mm_cells {w W : World} {k p c : Int} {a : Option Addr} {n cap : Nat} (h : Mm w W k p c a n cap) : W.cell? ⟨w.heap.size, 0, none⟩ = some (.int .i64 k) ∧ W.cell? ⟨w.heap.size, 1, none⟩ = some (.int .i64 p) ∧ W.cell? ⟨w.heap.size, 2, none⟩ = some (.int .i64 c) ∧
    W.cell? ⟨w.heap.size + 1, 0, none⟩ = some (.slice a n cap) ∧ w.heap.size + 1 < W.heap.size :=
  ⟨blk_cell h.1.2 rfl, blk_cell h.1.2 rfl, blk_cell h.1.2 rfl, blk_cell h.2 rfl, (Array.getElem?_eq_some_iff.1 h.2).1⟩
theorem mm_grown {w W W' : World} {k p c : Int} {a : Option Addr} {n cap : Nat} {row : Option Nat} (h : Mm w W k p c a n cap) (hg : W.grownBy W' row) (hr : ∀ r, row = some r → w.heap.size + 1 < r) : Mm w W' k p c a n cap := by
  refine ⟨one_grown h.1 hg (fun r e => by have := hr r e; omega), (hg.block _ (Array.getElem?_eq_some_iff.1 h.2).1 ?_).trans h.2⟩
  intro e
  have := hr _ e.symm
  omega

/-- the words of a log that begins at f -/
def logW (ms : List (Int × Int)) (f L : Nat) : List Int := (List.range L).map fun i => (ms.getD (f + i) (0, 0)).1
theorem logW_succ (ms : List (Int × Int)) (f n : Nat) : logW ms f (n + 1) = logW ms f n ++ [(ms.getD (f + n) (0, 0)).1] := by simp [logW, List.range_succ]
theorem logW_len (ms : List (Int × Int)) (f n : Nat) : (logW ms f n).length = n := by simp [logW]

set_option maxRecDepth 100000 in
set_option maxHeartbeats 4000000 in
theorem fLog (k p c q : Int) (sv : Value) (ms : List (Int × Int)) (N f Ln : Nat) (w : World) (h : Fit k p c) (q0 : 0 ≤ q) (q1 : q < p) (hL : logN k p c = Ln) (hf : atN k p c 3 q = f) (hfl : f + Ln ≤ N) (hms : ms.length = N) (hN : N ≤ 40000) (hs : Sl w sv N (cls ms)) :
    Calls Tryd.prog 51 #[conf k p c, .agg #[sv], .int .i64 q] w fun e w' => (∃ v, e = .returned v ∧ w'.ownsRow w.heap.size 28 1 v Ln (u64s (logW ms f Ln))) ∧ Below w.heap.size w w' := by
  obtain ⟨a, cap, rfl, hs⟩ := hs
  obtain ⟨i0, hi, hz0, hz1, hz2⟩ := info_parts word_info
  have HS := Lib.hid hs
  have HM := Lib.hid hms
  have hLm : Ln ≤ 2117 := by have := logN_bd k p c; omega
  have CA : Hid (∀ w1, Calls Tryd.prog 31 #[conf k p c, .int .i64 3, .int .i64 q] w1 fun e w' => e = .returned (.tuple #[.int .i64 (f : Int), .int .i64 0]) ∧ Below w1.heap.size w1 w') := Lib.hid (fun w1 => hf ▸ fAt_ok k p c 3 q w1 h (by omega) (by omega) q0 q1)
  have CL : Hid (∀ w1, Calls Tryd.prog 35 #[conf k p c] w1 fun e w' => e = .returned (.int .i64 (Ln : Int)) ∧ Below w1.heap.size w1 w') := Lib.hid (fun w1 => hL ▸ fLogSize k p c w1)
  clear h hs hms hL hf q0 q1
  go_enter Tryd.func51, Tryd.ntmps51
  go_wp2_with (first | (go_at_call 31; refine (CA.out _).mono ?_; rintro e wcT1 ⟨rfl, hbc⟩; have T1 := mm_call (mm_start _ _ _ _ _ _ _) hbc; obtain ⟨c0, c1, c2, m0, hs⟩ := mm_cells T1; have HT1 := Lib.hid hbc; clear hbc))
  have HT1 := Lib.hid T1
  clear T1 c0 c1 c2 m0
  go_loopw [9, 10] (fun ov i wr => ∃ n : Nat, n ≤ Ln ∧ i = .int .i64 n ∧ Hid (wr.ownsRow (w.heap.size + 2) 28 1 ov n (u64s (logW ms f n))) ∧ Hid (Mm w wr k p c a N cap)) (fun _ i _ => Ln - (intOf i).toNat)
  case atStart => exact ⟨0, by omega, rfl, Lib.hid (World.ownsRow_nil _ _ _ _), HT1⟩
  case round =>
    obtain ⟨n, hn, rfl, how, h1⟩ := hrel
    clear HT1
    obtain ⟨c0, c1, c2, m0, hz⟩ := mm_cells h1.out
    by_cases hlt : n = Ln
    · subst hlt
      go_wp2_with (first | (go_at_call 35; refine (CL.out _).mono ?_; rintro e wcT3 ⟨rfl, hbc⟩; have T3 := mm_call (h1.out) hbc; obtain ⟨c0, c1, c2, m0, hs⟩ := mm_cells T3; have HT3 := Lib.hid hbc; clear hbc))
      go_ret
      exact ⟨⟨_, rfl, owns_base (owns_below how.out HT3.out) (by omega)⟩, T3.1.1⟩
    · have hn' : n < Ln := by omega
      clear hn hlt
      obtain ⟨b, o, rfl, k1⟩ := Sl.at HS.out (by omega)
      obtain ⟨⟨x1, x2⟩, hx⟩ : ∃ x, ms[f + n]? = some x := ⟨_, List.getElem?_eq_getElem (by rw [HM.out]; omega)⟩
      have K1 := Lib.hid (show ∀ W, Below w.heap.size w W → W.cell? ⟨b, o + (f + n) * 2, none⟩ = some (.int .u64 x1) from fun W hB => by rw [Nat.mul_comm]; exact k1 W hB (2 * (f + n)) _ (cls_at _ _ _ hx).1)
      have HX := Lib.hid (show x1 = (ms.getD (f + n) (0, 0)).1 by simp [List.getD, hx])
      clear k1 hx HS
      go_wp2_with (first | (go_at_call 35; refine (CL.out _).mono ?_; rintro e w3 ⟨rfl, hbc⟩; have T3 := mm_call h1.out hbc; obtain ⟨c0, c1, c2, m0, hs⟩ := mm_cells T3; have how3 := Lib.hid (owns_below how.out hbc); have d1 := K1.out w3 T3.1.1; clear hbc) | (at_builtin; refine wpList_append_own _ rfl (.tmp 23) (.tmp 32) 27 (by rfl) (w.heap.size + 2) 28 i0 _ 1 8 under_words hi hz0 hz1 hz2 rfl (by decide) _ _ _ (by rfl) (how3.out.alloc _) ⟨w3.heap.size, 0, none⟩ 1 1 [.int .u64 x1] (by rfl) (by rfl) (World.news_of_block (World.alloc_heap_new w3 _)) (by intro u hu; simp at hu; rw [hu]; rfl) (by unfold maxLen; omega) (by omega) (by simp; omega) ?_; intro v9 w9 hown9 hg9 _))
      have R1 := Lib.hid (show w9.ownsRow (w.heap.size + 2) 28 1 v9 (n + 1) (u64s (logW ms f (n + 1))) from by rw [logW_succ, ← HX.out]; simpa using hown9)
      have R2 := Lib.hid (mm_grown (mm_call T3 (blk_alloc _ _)) hg9 (fun r hr => by have := (how3.out.lt r hr).1; omega))
      clear hown9 hg9
      go_roundw
      case rel => exact ⟨n + 1, by omega, by go_num, R1, R2⟩
      case measure => simp [intOf]; omega

end Go.Proofs.YthigfjelgbdcfaaDoor

/-! Layer 16: the reference's Wipe. -/
namespace Go.Proofs.YthigfjelgbdcfaaDoor
open Go.RowKit Go.Maps

def memE (r : Int) : Value := .tuple #[.agg #[.slice none 0 0], .int .i64 r]
/-- n cells from f on, wiped -/
def wipeTo (ms : List (Int × Int)) (f : Nat) : Nat → List (Int × Int)
  | 0 => ms
  | n + 1 => (wipeTo ms f n).set (f + n) (0, 0)
theorem wipeTo_len (ms : List (Int × Int)) (f : Nat) : ∀ n, (wipeTo ms f n).length = ms.length
  | 0 => rfl
  | n + 1 => by rw [wipeTo, List.length_set, wipeTo_len ms f n]

theorem cls_set : ∀ (l : List (Int × Int)) (j : Nat) (x : Int × Int), cls (l.set j x) = ((cls l).set (2 * j) (.int .u64 x.1)).set (2 * j + 1) (.int .i64 x.2)
  | [], j, x => by simp [cls]
  | y :: r, 0, x => by simp [cls]
  | y :: r, j + 1, x => by
    rw [List.set_cons_succ, cls, cls_set r j x, show 2 * (j + 1) = 2 * j + 1 + 1 by omega]
    simp [cls]

/-- a cell of a row of one's own, stored into -/
theorem owns_put {w : World} {base g cap N j : Nat} {e : TypeId} {xs : List Value} {u : Value} (h : w.ownsRow base e 2 (.slice (some ⟨g, 0, none⟩) N cap) N xs) (hj : j < N * 2) :
    (w.setCell ⟨g, j, none⟩ u).ownsRow base e 2 (.slice (some ⟨g, 0, none⟩) N cap) N (xs.set j u) := by
  refine ⟨by rw [List.length_set]; exact h.1, ?_⟩
  rcases h.2 with ⟨h0, _⟩ | ⟨g', cap', cur, hv, h1, h2, h3, h4, h5, h6⟩
  · cases h0
  · cases hv
    refine .inr ⟨g, cap, cur.setIfInBounds j u, rfl, h1, blk_set h2 u, h3, h4, by simpa using h5, ?_⟩
    rw [Array.toList_setIfInBounds, List.take_set, h6]
theorem owns_cell {w : World} {base g cap N j : Nat} {e : TypeId} {xs : List Value} (h : w.ownsRow base e 2 (.slice (some ⟨g, 0, none⟩) N cap) N xs) (hj : j < N * 2) :
    (∃ u, w.cell? ⟨g, j, none⟩ = some u) ∧ w.frozen? ⟨g, j, none⟩ = false ∧ base ≤ g ∧ g < w.heap.size := by
  have hl := h.1
  refine ⟨⟨xs[j]'(by omega), ?_⟩, ?_⟩
  · have := h.cells (g := g) rfl j _ (List.getElem?_eq_getElem (by omega))
    rw [add_at] at this
    simpa using this
  · rcases h.2 with ⟨h0, _⟩ | ⟨g', cap', cur, hv, h1, h2, h3⟩
    · cases h0
    · cases hv
      exact ⟨blk_frozen h2, h1, (Array.getElem?_eq_some_iff.1 h2).1⟩

theorem fWipe_err (k p c q r : Int) (a : Option Addr) (n cap : Nat) (w : World) (hr : r = 5 ∨ r = 1) (hm : ∀ w1, Calls Tryd.prog 50 #[conf k p c, .agg #[.slice a n cap], .int .i64 q] w1 fun e w' => e = .returned (.int .i64 r) ∧ Below w1.heap.size w1 w') :
    Calls Tryd.prog 24 #[conf k p c, .agg #[.slice a n cap], .int .i64 q] w fun e w' => e = .returned (memE r) ∧ Below w.heap.size w w' := by
  have HM := Lib.hid hm
  clear hm
  rcases hr with rfl | rfl
  all_goals
    go_enter Tryd.func24, Tryd.ntmps24
    go_wp2_with (first | (go_at_call 50; refine (HM.out _).mono ?_; rintro e wc ⟨rfl, hbc⟩; have hBc : Below w.heap.size w wc := Below.trans (by repeat (first | exact Below.refl _ _ | assumption | refine Below.drew ?_ | refine Below.alloc ?_ (by first | omega | (simp; omega) | (simp; done)) _ | refine Below.setCell ?_ (by first | omega | (simp; omega) | (simp; done)) _)) (hbc.mono (by simp; omega)); have b2 : wc.heap[w.heap.size + 1 + 1]? = some (memBox none 0 0) := (hbc.block _ (by simp)).trans (alloc_at _ _ (by simp)); have y2 := blk_cell b2 (i := 0) (v := .slice none 0 0) rfl; have f2 := blk_frozen b2 (i := 0); clear hbc))
    have y3 := blk_cell (blk_set (i := 0) b2 (.slice none 0 0)) (i := 0) (v := .slice none 0 0) rfl
    refine ⟨rfl, memE _, ?_, rfl, hBc.setCell (p := ⟨w.heap.size + 1 + 1, 0, none⟩) (by simp; omega) _⟩
    simp [results, memE, Tryd.f24, go_sem, y3]

/-- the boxes, and the result's -/
def Mw (w W : World) (k p c : Int) (a : Option Addr) (n cap : Nat) : Prop := Mm w W k p c a n cap ∧ W.heap[w.heap.size + 1 + 1]? = some (memBox none 0 0)
theorem mw_start (w : World) (k p c : Int) (a : Option Addr) (n cap : Nat) : Mw w (((w.alloc (.cells #[.int .i64 k, .int .i64 p, .int .i64 c] 24)).alloc (memBox a n cap)).alloc (memBox none 0 0)) k p c a n cap := ⟨mm_call (mm_start w k p c a n cap) (blk_alloc _ _), alloc_at _ _ (by simp)⟩
theorem mw_call {w W W' : World} {k p c : Int} {a : Option Addr} {n cap : Nat} (h : Mw w W k p c a n cap) (hb : Below W.heap.size W W') : Mw w W' k p c a n cap :=
  ⟨mm_call h.1 hb, (hb.block _ (Array.getElem?_eq_some_iff.1 h.2).1).trans h.2⟩
theorem mw_set {w W : World} {k p c : Int} {a : Option Addr} {n cap g i : Nat} (h : Mw w W k p c a n cap) (hg : w.heap.size + 1 + 1 < g) (v : Value) : Mw w (W.setCell ⟨g, i, none⟩ v) k p c a n cap :=
  ⟨⟨one_set h.1.1 (by omega) v, blk_far h.1.2 (by omega) v⟩, blk_far h.2 (by omega) v⟩

set_option maxRecDepth 100000 in
set_option maxHeartbeats 4000000 in
theorem fWipe_ok (k p c q : Int) (a : Option Addr) (cap : Nat) (ms : List (Int × Int)) (N f Ln : Nat) (w : World) (h : Fit k p c) (q0 : 0 ≤ q) (q1 : q < p) (hL : logN k p c = Ln) (hL1 : 1 ≤ Ln) (hf : atN k p c 3 q = f) (hfl : f + Ln ≤ N) (hms : ms.length = N) (hN : (N : Int) = sizeN k p c) (hs : Sl w (.slice a N cap) N (cls ms)) :
    Calls Tryd.prog 24 #[conf k p c, .agg #[.slice a N cap], .int .i64 q] w fun e w' => (∃ v, e = .returned (.tuple #[.agg #[v], .int .i64 0]) ∧ w'.ownsRow w.heap.size 68 2 v N (cls (wipeTo ms f Ln))) ∧ Below w.heap.size w w' := by
  have HS := Lib.hid hs
  have HM := Lib.hid hms
  have hNb : N ≤ 40000 := by have := sizeN_bd k p c; omega
  have hLm : Ln ≤ 2117 := by have := logN_bd k p c; omega
  have CM : Hid (∀ w1, Calls Tryd.prog 50 #[conf k p c, .agg #[.slice a N cap], .int .i64 q] w1 fun e w' => e = .returned (.int .i64 0) ∧ Below w1.heap.size w1 w') := Lib.hid (fun w1 => fMay_ok k p c q a N cap w1 h hN q0 q1)
  have CA : Hid (∀ w1, Calls Tryd.prog 31 #[conf k p c, .int .i64 3, .int .i64 q] w1 fun e w' => e = .returned (.tuple #[.int .i64 (f : Int), .int .i64 0]) ∧ Below w1.heap.size w1 w') := Lib.hid (fun w1 => hf ▸ fAt_ok k p c 3 q w1 h (by omega) (by omega) q0 q1)
  have CL : Hid (∀ w1, Calls Tryd.prog 35 #[conf k p c] w1 fun e w' => e = .returned (.int .i64 (Ln : Int)) ∧ Below w1.heap.size w1 w') := Lib.hid (fun w1 => hL ▸ fLogSize k p c w1)
  have CO : Hid (∀ w1, Below w.heap.size w w1 → Calls Tryd.prog 46 #[.agg #[.slice a N cap]] w1 fun e w' => ∃ v, e = .returned (.agg #[v]) ∧ w'.ownsRow w1.heap.size 68 2 v N (cls ms) ∧ Below w1.heap.size w1 w') := Lib.hid (fun w1 hb => fOwn _ ms N w1 hms (hs.below hb) (by omega))
  clear h hs hms hL hf q0 q1 hN
  go_enter Tryd.func24, Tryd.ntmps24
  go_wp2_with (first | (go_at_call 50; refine (CM.out _).mono ?_; rintro e wc ⟨rfl, hbc⟩; have T1 := mw_call (mw_start _ _ _ _ _ _ _) hbc; obtain ⟨c0, c1, c2, m0, hz⟩ := mm_cells T1.1; clear hbc) | (go_at_call 46; refine (CO.out _ T1.1.1.1).mono ?_; rintro e wo ⟨v, rfl, hv, hbo⟩; obtain ⟨g, cp, rfl, hgb, hgl⟩ := World.ownsRow.form hv (by omega); have T2 := Lib.hid (mw_call T1 hbo); have HV := Lib.hid hv; obtain ⟨c0, c1, c2, m0, hzo⟩ := mm_cells T2.out.1; have hzo1 : w.heap.size < wo.heap.size := (by omega); clear hbo hv) | (go_at_call 31; refine (CA.out _).mono ?_; rintro e wa ⟨rfl, hba⟩; have HBA := Lib.hid hba; clear hba))
  have HB2 := Lib.hid (show wa.heap[wo.heap.size]? = some (memBox (some ⟨g, 0, none⟩) N cp) from (HBA.out.block _ (by simp)).trans (World.alloc_heap_new wo _))
  have T3 := Lib.hid (mw_call (mw_call T2.out (blk_alloc wo (memBox (some ⟨g, 0, none⟩) N cp))) HBA.out)
  have HV3 := Lib.hid (owns_below (HV.out.alloc (memBox (some ⟨g, 0, none⟩) N cp)) HBA.out)
  have hg2 : w.heap.size + 1 + 1 < g := by
    have := (Array.getElem?_eq_some_iff.1 T1.2).1
    omega
  obtain ⟨g9, hg9⟩ : ∃ g9, wo.heap.size = g9 := ⟨_, rfl⟩
  have hgg : g < g9 := by omega
  rw [hg9] at HB2 ⊢
  clear HV T2 c0 c1 c2 m0 T1
  go_loopw [12] (fun i wr => ∃ n : Nat, n ≤ Ln ∧ i = .int .i64 n ∧ Hid (wr.heap[g9]? = some (memBox (some ⟨g, 0, none⟩) N cp)) ∧ Hid (wr.ownsRow (w.heap.size + 1 + 1) 68 2 (.slice (some ⟨g, 0, none⟩) N cp) N (cls (wipeTo ms f n))) ∧ Hid (Mw w wr k p c a N cap)) (fun i _ => Ln - (intOf i).toNat)
  case atStart => exact ⟨0, by omega, rfl, HB2, Lib.hid (owns_base HV3.out (by omega)), T3⟩
  case round =>
    obtain ⟨n, hn, rfl, hbx, how, h1⟩ := hrel
    clear HB2 HV3 T3 HBA
    obtain ⟨c0, c1, c2, m0, hz⟩ := mm_cells h1.out.1
    by_cases hlt : n = Ln
    · subst hlt
      go_wp2_with (first | (go_at_call 35; refine (CL.out _).mono ?_; rintro e w3 ⟨rfl, hbc⟩; have T4 := Lib.hid (mw_call h1.out hbc); have hb3 := (hbc.block _ (Array.getElem?_eq_some_iff.1 hbx.out).1).trans hbx.out; have y9 := blk_cell hb3 (i := 0) (v := .slice (some ⟨g, 0, none⟩) N cp) rfl; have y2 := blk_cell T4.out.2 (i := 0) (v := .slice none 0 0) rfl; have f2 := blk_frozen T4.out.2 (i := 0); have HO3 := Lib.hid (owns_below how.out hbc); clear hbc))
      have y3 := blk_cell (blk_set (i := 0) T4.out.2 (.slice (some ⟨g, 0, none⟩) N cp)) (i := 0) (v := .slice (some ⟨g, 0, none⟩) N cp) rfl
      exact ⟨rfl, .tuple #[.agg #[.slice (some ⟨g, 0, none⟩) N cp], .int .i64 0], by simp [results, Tryd.f24, go_sem, y3], ⟨_, rfl, owns_base (owns_set HO3.out T4.out.2 (by decide) _ _) (by omega)⟩, T4.out.1.1.1.setCell (p := ⟨w.heap.size + 1 + 1, 0, none⟩) (by simp; omega) _⟩
    · have hn' : n < Ln := by omega
      clear hn hlt
      have t0 : ((f : Int) + (n : Int)).toNat = f + n := by omega
      have l0 : (0 : Int) ≤ (f : Int) + (n : Int) := by omega
      have l1 : (f : Int) + (n : Int) < N := by omega
      have r0 : IntKind.i64.wrap ((f : Int) + (n : Int)) = f + n := w64 (by omega) (by omega)
      go_wp2_with (first | (go_at_call 35; refine (CL.out _).mono ?_; rintro e w3 ⟨rfl, hbc⟩; have T4 := Lib.hid (mw_call h1.out hbc); have hb3 := (hbc.block _ (Array.getElem?_eq_some_iff.1 hbx.out).1).trans hbx.out; have y9 := blk_cell hb3 (i := 0) (v := .slice (some ⟨g, 0, none⟩) N cp) rfl; have HB3 := Lib.hid hb3; have HO3 := Lib.hid (owns_below how.out hbc); obtain ⟨⟨u1, o1⟩, p1, _, _⟩ := owns_cell (j := (f + n) * 2) HO3.out (by omega); obtain ⟨⟨u2, o2⟩, p2, _, _⟩ := owns_cell (j := (f + n) * 2 + 1) HO3.out (by omega); clear hbc hb3))
      have R1 := Lib.hid (owns_put (u := .int .i64 0) (j := (f + n) * 2 + 1) (owns_put (u := .int .u64 0) (j := (f + n) * 2) HO3.out (by omega)) (by omega))
      have R2 := Lib.hid (mw_set (g := g) (i := (f + n) * 2 + 1) (mw_set (g := g) (i := (f + n) * 2) T4.out hg2 (.int .u64 0)) hg2 (.int .i64 0))
      have R3 := Lib.hid (blk_far (b' := g) (i := (f + n) * 2 + 1) (blk_far (b' := g) (i := (f + n) * 2) HB3.out (by omega) (.int .u64 0)) (by omega) (.int .i64 0))
      go_roundw
      case rel => exact ⟨n + 1, by omega, by go_num, R3, Lib.hid (by rw [wipeTo, cls_set, Nat.mul_comm 2 (f + n)]; exact R1.out), R2⟩
      case measure => simp [intOf]; omega

end Go.Proofs.YthigfjelgbdcfaaDoor

/-! cells.Store, in the door seat. -/
namespace Go.Proofs.YthigfjelgbdcfaaDoor
open Go.RowKit

theorem cplace_ok (g n cap : Nat) (i : Int) (w : World) (h0 : 0 ≤ i) (h1 : i < n) :
    Calls Tryd.prog 74 #[.slice (some ⟨g, 0, none⟩) n cap, .int .i64 i] w fun e w' => e = .returned (.pointer (some ⟨g, i.toNat * 2, none⟩)) ∧ w = w' := by
  go_enter Tryd.func74, Tryd.ntmps74
  go_wp2
  go_ret
  exact ⟨rfl, rfl⟩


theorem ccell_ok (b g n cap : Nat) (p i : Int) (w : World) (hb : w.cell? ⟨b, 0, none⟩ = some (.slice (some ⟨g, 0, none⟩) n cap)) (hp0 : 0 ≤ p) (hp1 : p < 16) (h0 : 0 ≤ i) (h1 : i < n) :
    Calls Tryd.prog 63 #[.pointer (some ⟨b, 0, none⟩), .int .i64 p, .int .i64 i] w fun e w' => e = .returned (.pointer (some ⟨g, i.toNat * 2, none⟩)) ∧ w = w' := by
  go_enter Tryd.func63, Tryd.ntmps63
  go_wp2_with (go_at_call 74; refine (cplace_ok _ _ _ _ _ h0 h1).mono ?_; rintro e w' ⟨rfl, rfl⟩)
  go_ret
  exact ⟨rfl, rfl⟩


theorem ccaught_idle (k : Nat) (w : World) :
    CallsD Tryd.prog 62 #[.pointer (some ⟨k, 0, none⟩)] .returning w fun e u' w' => e = .returned (.tuple #[]) ∧ u' = .returning ∧ w = w' := by
  refine callsD_of_wpS Tryd.func62 rfl fun c₀ cs hu => ?_
  apply wpS_seq
  apply wpS_region
  simp [wpOpsS, go_sem, recoverD, hu, Tryd.ntmps62, Exit.thenS]
  refine wpS_of_wp ?_
  simp only [Array.replicate_succ, Array.replicate_zero, List.push_toArray, List.nil_append, List.cons_append]
  go_wp2
  exact ⟨rfl, .returning, by rw [← hu], _, results_none rfl _ _ _, rfl, rfl, rfl⟩



theorem cstore_ok (b g n cap : Nat) (v i x y : Int) (w : World) (hb : w.cell? ⟨b, 0, none⟩ = some (.slice (some ⟨g, 0, none⟩) n cap)) (hlt : b < w.heap.size) (hgt : g < w.heap.size) (h0 : 0 ≤ i) (h1 : i < n)
    (hx : w.cell? ⟨g, i.toNat * 2, none⟩ = some (.int .u64 x)) (hy : w.cell? ⟨g, i.toNat * 2 + 1, none⟩ = some (.int .i64 y)) (hz : ∀ j, w.frozen? ⟨g, j, none⟩ = false) :
    Calls Tryd.prog 49 #[.pointer (some ⟨b, 0, none⟩), .int .i64 i, .int .u64 v] w fun e w' => e = .returned (.int .i64 0) ∧ Below w.heap.size ((w.setCell ⟨g, i.toNat * 2, none⟩ (.int .u64 v)).setCell ⟨g, i.toNat * 2 + 1, none⟩ (.int .i64 0)) w' := by
  go_enter_defers Tryd.func49, Tryd.ntmps49
  go_wp2_with (go_at_call 63; refine (ccell_ok b g n cap _ _ _ (by simpa [go_sem, hlt] using hb) (by omega) (by omega) h0 h1).mono ?_; rintro e w' ⟨rfl, rfl⟩)
  refine leaves_cons (f := 62) (args := #[.pointer (some ⟨w.heap.size, 0, none⟩)]) (by simp) (by simp [go_sem]) ?_
  refine (ccaught_idle w.heap.size _).mono ?_
  rintro e u' w'' ⟨rfl, rfl, rfl⟩
  simp [Leaves, settle, results, Tryd.results49, go_sem]
  exact (by repeat (first | exact Below.refl _ _ | assumption | refine Below.drew ?_ | refine Below.alloc ?_ (by first | omega | (simp; omega) | (simp; done)) _ | refine Below.setCell ?_ (by first | omega | (simp; omega) | (simp; done)) _))


end Go.Proofs.YthigfjelgbdcfaaDoor

/-! Layer 16: log. -/
namespace Go.Proofs.YthigfjelgbdcfaaDoor
open Go.RowKit Go.Maps

theorem wLog_conf (k p c q : Int) (bm : Nat) (w : World) (h : ¬ Fit k p c) : Calls Tryd.prog 48 #[conf k p c, .pointer (some ⟨bm, 0, none⟩), .int .i64 q] w fun e w' => e = .panicked (oddCh 5) ∧ Below w.heap.size w w' := by
  have hF := fitsB_no h
  clear h
  go_enter Tryd.func48, Tryd.ntmps48
  go_wp2_with (first | (go_at_call 41; refine (rFits _ _ _ _).mono ?_; rintro e wc ⟨rfl, hbc⟩; have hBc : Below w.heap.size w wc := Below.trans (by repeat (first | exact Below.refl _ _ | assumption | refine Below.drew ?_ | refine Below.alloc ?_ (by first | omega | (simp; omega) | (simp; done)) _ | refine Below.setCell ?_ (by first | omega | (simp; omega) | (simp; done)) _)) (hbc.mono (by first | omega | (simp; omega) | (simp; done))); obtain ⟨hcc, hfc⟩ := bcell hbc; have hzc := hbc.size; try simp at hzc; try (have hz0' : w.heap.size < wc.heap.size := (by omega)); try (have hz1' : w.heap.size + 1 < wc.heap.size := (by omega)); try (have hz2' : w.heap.size + 1 + 1 < wc.heap.size := (by omega))) | (go_at_call_of 40 (Value.bool true); refine (want_yes _ _).mono ?_; rintro e w' ⟨rfl, rfl⟩) | (go_at_call_of 40 (Value.bool false); refine (want_no _ _).mono ?_; rintro e w' ⟨rfl, rfl⟩))
  exact ⟨rfl, rfl, (by repeat (first | exact Below.refl _ _ | assumption | refine Below.drew ?_ | refine Below.alloc ?_ (by first | omega | (simp; omega) | (simp; done)) _ | refine Below.setCell ?_ (by first | omega | (simp; omega) | (simp; done)) _))⟩

/-- the blocks of 'log': the configuration, memory's pointer; and what is told of them in a later world -/
def Lg (w W : World) (k p c : Int) (bm : Nat) : Prop := One w W k p c ∧ W.heap[w.heap.size + 1]? = some (.cells #[.pointer (some ⟨bm, 0, none⟩)] 84 (0, 0))
theorem lg_start (w : World) (k p c : Int) (bm : Nat) : Lg w ((w.alloc (.cells #[.int .i64 k, .int .i64 p, .int .i64 c] 24)).alloc (.cells #[.pointer (some ⟨bm, 0, none⟩)] 84)) k p c bm := ⟨one_call (one_start w k p c) (blk_alloc _ _), alloc_at _ _ (by simp)⟩
theorem lg_call {w W W' : World} {k p c : Int} {bm : Nat} (h : Lg w W k p c bm) (hb : Below W.heap.size W W') : Lg w W' k p c bm :=
  ⟨one_call h.1 hb, (hb.block _ (Array.getElem?_eq_some_iff.1 h.2).1).trans h.2⟩
theorem lg_cells {w W : World} {k p c : Int} {bm : Nat} (h : Lg w W k p c bm) : W.cell? ⟨w.heap.size, 0, none⟩ = some (.int .i64 k) ∧ W.cell? ⟨w.heap.size, 1, none⟩ = some (.int .i64 p) ∧ W.cell? ⟨w.heap.size, 2, none⟩ = some (.int .i64 c) ∧
    W.cell? ⟨w.heap.size + 1, 0, none⟩ = some (.pointer (some ⟨bm, 0, none⟩)) ∧ w.heap.size + 1 < W.heap.size ∧ w.heap.size < W.heap.size :=
  ⟨blk_cell h.1.2 rfl, blk_cell h.1.2 rfl, blk_cell h.1.2 rfl, blk_cell h.2 rfl, (Array.getElem?_eq_some_iff.1 h.2).1, (Array.getElem?_eq_some_iff.1 h.1.2).1⟩

end Go.Proofs.YthigfjelgbdcfaaDoor
