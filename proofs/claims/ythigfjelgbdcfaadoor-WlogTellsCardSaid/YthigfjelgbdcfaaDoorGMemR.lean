/- Wipe and Lay, in one word for the code and for the reference. -/
import Derived.Test.YthigfjelgbdcfaaDoorGLayW
import Derived.Test.YthigfjelgbdcfaaDoorGLayF

set_option linter.unusedSimpArgs false
set_option linter.unusedVariables false

/-! Layer 16: Lay and Wipe, code and reference, each by one contract. -/
namespace Go.Proofs.YthigfjelgbdcfaaDoor
open Go.RowKit Go.Maps

def MemOk (ms : List (Int × Int)) : Prop := ∀ x ∈ ms, 0 ≤ x.1 ∧ x.1 ≤ 18446744073709551615
/-- what Wipe tells -/
def wipeR (k p c q : Int) (ms : List (Int × Int)) : List (Int × Int) × Int :=
  if Fit k p c then (if (ms.length : Int) = sizeN k p c ∧ 0 ≤ q ∧ q < p then (wipeTo ms (atN k p c 3 q).toNat (logN k p c).toNat, 0) else ([], 1)) else ([], 5)
/-- what Lay tells -/
noncomputable def layR (k p c q : Int) (ms : List (Int × Int)) : List (Int × Int) × Int :=
  if Fit k p c then (if (ms.length : Int) = sizeN k p c ∧ 0 ≤ q ∧ q < p then
    (if (unR k p c (logW ms (atN k p c 3 q).toNat (logN k p c).toNat)).2 = 0 then (layTo ms (unR k p c (logW ms (atN k p c 3 q).toNat (logN k p c).toNat)).1, 0) else ([], 2)) else ([], 1)) else ([], 5)
def MemPost (w : World) (R : List (Int × Int) × Int) (e : Ending) (w' : World) : Prop := ∃ v, e = .returned (.tuple #[.agg #[v], .int .i64 R.2]) ∧ w'.ownsRow w.heap.size 68 2 v R.1.length (cls R.1) ∧ Below w.heap.size w w'
theorem memPost_err {w : World} {r : Int} {e : Ending} {w' : World} (h : e = .returned (memE r) ∧ Below w.heap.size w w') : MemPost w ([], r) e w' :=
  ⟨_, h.1, World.ownsRow_nil _ _ _ _, h.2⟩
theorem log_in {k p c q : Int} (h : Fit k p c) (q0 : 0 ≤ q) (q1 : q < p) : 0 ≤ atN k p c 3 q ∧ 0 ≤ logN k p c ∧ 1 ≤ logN k p c ∧ atN k p c 3 q + logN k p c ≤ sizeN k p c := by
  have h' := h
  unfold Fit at h'
  have hb := homeF_bd h
  have hl := logN_yes h
  have hat := at_bd h (i := 3) (by omega) (by omega) q0 q1
  refine ⟨hat.1, by omega, by omega, ?_⟩
  have e1 : atN k p c 3 q = preN k p c 3 + q * partSize k p c 3 := by unfold atN; rw [if_neg (by omega)]
  have e2 : preN k p c (3 + 1) = preN k p c 3 + partSize k p c 3 * partOwn p 3 := pre_step (by omega) (by omega)
  have e3 : preN k p c (4 + 1) = preN k p c 4 + partSize k p c 4 * partOwn p 4 := pre_step (by omega) (by omega)
  have e4 := pre_five h
  have p3 : partSize k p c 3 = logN k p c := by rw [hl]; simp [partSize]
  have o3 : partOwn p 3 = p := by simp [partOwn]
  have s4 := part_bd h (i := 4) (by omega) (by omega)
  have m4 := prod_bd h (i := 4) (by omega) (by omega)
  simp only [Int.reduceAdd] at e2 e3
  rw [p3] at e1
  rw [p3, o3] at e2
  have hm : (q + 1) * logN k p c ≤ p * logN k p c := Int.mul_le_mul_of_nonneg_right (by omega) (by omega)
  rw [Int.add_mul, Int.one_mul] at hm
  rw [Int.mul_comm (logN k p c) p] at e2
  omega

theorem wWipe (k p c q : Int) (sv : Value) (ms : List (Int × Int)) (n : Nat) (w : World) (ho : Objs w) (hms : ms.length = n) (hn : n ≤ 1000000) (hs : Sl w sv n (cls ms)) :
    Calls Tryd.prog 23 #[conf k p c, .agg #[sv], .int .i64 q] w (MemPost w (wipeR k p c q ms)) := by
  obtain ⟨a, cap, rfl, hs'⟩ := hs
  have hs : Sl w (.slice a n cap) n (cls ms) := ⟨a, cap, rfl, hs'⟩
  unfold wipeR
  by_cases h : Fit k p c
  · rw [if_pos h]
    by_cases hq : 0 ≤ q ∧ q < p
    · by_cases hz : (ms.length : Int) = sizeN k p c
      · rw [if_pos ⟨hz, hq⟩]
        obtain ⟨l1, l2, l3, l4⟩ := log_in h hq.1 hq.2
        refine (wWipe_ok k p c q a cap ms n (atN k p c 3 q).toNat (logN k p c).toNat w ho h hq.1 hq.2 (by omega) (by omega) (by omega) (by omega) hms (by omega) hs).mono ?_
        rintro e w' ⟨⟨v, rfl, hv⟩, hb⟩
        exact ⟨_, rfl, by rw [wipeTo_len, hms]; exact hv, hb⟩
      · rw [if_neg (fun h => hz h.1)]
        exact (wWipe_err k p c q 1 a n cap ms w hms hn hs (fun w1 bm a1 c1 hb hm => wLog_size k p c q bm a1 n c1 w1 (ho.below hb) hm h hq.1 hq.2 (by omega))).mono fun _ _ h => memPost_err h
    · rw [if_neg (fun h => hq h.2)]
      exact (wWipe_err k p c q 1 a n cap ms w hms hn hs (fun w1 bm a1 c1 hb hm => wLog_at k p c q bm w1 h (by omega))).mono fun _ _ h => memPost_err h
  · rw [if_neg h]
    exact (wWipe_err k p c q 5 a n cap ms w hms hn hs (fun w1 bm a1 c1 hb hm => wLog_conf k p c q bm w1 h)).mono fun _ _ h => memPost_err h

theorem fMay (k p c q : Int) (a : Option Addr) (n cap : Nat) (w : World) (h : Fit k p c) (hz : ¬ ((n : Int) = sizeN k p c ∧ 0 ≤ q ∧ q < p)) : Calls Tryd.prog 50 #[conf k p c, .agg #[.slice a n cap], .int .i64 q] w fun e w' => e = .returned (.int .i64 1) ∧ Below w.heap.size w w' := by
  by_cases h1 : (n : Int) = sizeN k p c
  · by_cases h2 : q < 0
    · exact fMay_neg k p c q a n cap w h h1 h2
    · exact fMay_big k p c q a n cap w h h1 (by omega) (by omega)
  · exact fMay_len k p c q a n cap w h h1

theorem fWipe (k p c q : Int) (sv : Value) (ms : List (Int × Int)) (n : Nat) (w : World) (hms : ms.length = n) (hn : n ≤ 1000000) (hs : Sl w sv n (cls ms)) :
    Calls Tryd.prog 24 #[conf k p c, .agg #[sv], .int .i64 q] w (MemPost w (wipeR k p c q ms)) := by
  obtain ⟨a, cap, rfl, hs'⟩ := hs
  have hs : Sl w (.slice a n cap) n (cls ms) := ⟨a, cap, rfl, hs'⟩
  unfold wipeR
  by_cases h : Fit k p c
  · rw [if_pos h]
    by_cases hz : (ms.length : Int) = sizeN k p c ∧ 0 ≤ q ∧ q < p
    · rw [if_pos hz]
      obtain ⟨l1, l2, l3, l4⟩ := log_in h hz.2.1 hz.2.2
      refine (fWipe_ok k p c q a cap ms n (atN k p c 3 q).toNat (logN k p c).toNat w h hz.2.1 hz.2.2 (by omega) (by omega) (by omega) (by omega) hms (by omega) hs).mono ?_
      rintro e w' ⟨⟨v, rfl, hv⟩, hb⟩
      exact ⟨_, rfl, by rw [wipeTo_len, hms]; exact hv, hb⟩
    · rw [if_neg hz]
      rw [hms] at hz
      exact (fWipe_err k p c q 1 a n cap w (.inr rfl) (fun w1 => fMay k p c q a n cap w1 h hz)).mono fun _ _ h => memPost_err h
  · rw [if_neg h]
    exact (fWipe_err k p c q 5 a n cap w (.inl rfl) (fun w1 => fMay_conf k p c q a n cap w1 h)).mono fun _ _ h => memPost_err h

theorem memPost_lay {w : World} {ms : List (Int × Int)} {N : Nat} {R : List (Int × Int) × Int} (hms : ms.length = N) {e : Ending} {w' : World} (h : LayPost w ms N R e w') : MemPost w (if R.2 = 0 then (layTo ms R.1, 0) else ([], 2)) e w' := by
  obtain ⟨⟨h2, rfl⟩ | ⟨h0, v, rfl, hv⟩, hb⟩ := h
  · rw [if_neg (by omega)]
    exact memPost_err ⟨rfl, hb⟩
  · rw [if_pos h0]
    exact ⟨_, rfl, by rw [layTo_len, hms]; exact hv, hb⟩

theorem wLay (k p c q : Int) (sv : Value) (ms : List (Int × Int)) (n : Nat) (w : World) (ho : Objs w) (hms : ms.length = n) (hn : n ≤ 1000000) (hs : Sl w sv n (cls ms)) (hw : MemOk ms) :
    Calls Tryd.prog 21 #[conf k p c, .agg #[sv], .int .i64 q] w (MemPost w (layR k p c q ms)) := by
  obtain ⟨a, cap, rfl, hs'⟩ := hs
  have hs : Sl w (.slice a n cap) n (cls ms) := ⟨a, cap, rfl, hs'⟩
  unfold layR
  by_cases h : Fit k p c
  · rw [if_pos h]
    by_cases hq : 0 ≤ q ∧ q < p
    · by_cases hz : (ms.length : Int) = sizeN k p c
      · rw [if_pos ⟨hz, hq⟩]
        obtain ⟨l1, l2, l3, l4⟩ := log_in h hq.1 hq.2
        exact (wLay_ok k p c q a cap ms n (atN k p c 3 q).toNat (logN k p c).toNat _ w ho h hq.1 hq.2 (by omega) (by omega) (by omega) (by omega) hms (by omega) hs hw rfl).mono fun _ _ h => memPost_lay hms h
      · rw [if_neg (fun h => hz h.1)]
        exact (wLay_err k p c q 1 a n cap ms w hms hn hs (fun w1 bm a1 c1 hb hm => wLog_size k p c q bm a1 n c1 w1 (ho.below hb) hm h hq.1 hq.2 (by omega))).mono fun _ _ h => memPost_err h
    · rw [if_neg (fun h => hq h.2)]
      exact (wLay_err k p c q 1 a n cap ms w hms hn hs (fun w1 bm a1 c1 hb hm => wLog_at k p c q bm w1 h (by omega))).mono fun _ _ h => memPost_err h
  · rw [if_neg h]
    exact (wLay_err k p c q 5 a n cap ms w hms hn hs (fun w1 bm a1 c1 hb hm => wLog_conf k p c q bm w1 h)).mono fun _ _ h => memPost_err h

theorem fLay (k p c q : Int) (sv : Value) (ms : List (Int × Int)) (n : Nat) (w : World) (ho : Objs w) (hms : ms.length = n) (hs : Sl w sv n (cls ms)) (hw : MemOk ms) :
    Calls Tryd.prog 22 #[conf k p c, .agg #[sv], .int .i64 q] w (MemPost w (layR k p c q ms)) := by
  obtain ⟨a, cap, rfl, hs'⟩ := hs
  have hs : Sl w (.slice a n cap) n (cls ms) := ⟨a, cap, rfl, hs'⟩
  unfold layR
  by_cases h : Fit k p c
  · rw [if_pos h]
    by_cases hz : (ms.length : Int) = sizeN k p c ∧ 0 ≤ q ∧ q < p
    · rw [if_pos hz]
      obtain ⟨l1, l2, l3, l4⟩ := log_in h hz.2.1 hz.2.2
      exact (fLay_ok k p c q a cap ms n (atN k p c 3 q).toNat (logN k p c).toNat _ w ho h hz.2.1 hz.2.2 (by omega) (by omega) (by omega) (by omega) hms (by omega) hs hw rfl).mono fun _ _ h => memPost_lay hms h
    · rw [if_neg hz]
      rw [hms] at hz
      exact (fLay_err k p c q 1 a n cap w (.inr rfl) (fun w1 => fMay k p c q a n cap w1 h hz)).mono fun _ _ h => memPost_err h
  · rw [if_neg h]
    exact (fLay_err k p c q 5 a n cap w (.inl rfl) (fun w1 => fMay_conf k p c q a n cap w1 h)).mono fun _ _ h => memPost_err h

end Go.Proofs.YthigfjelgbdcfaaDoor
