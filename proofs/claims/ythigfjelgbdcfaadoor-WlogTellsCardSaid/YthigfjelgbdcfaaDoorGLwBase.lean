/- The frame of the law's walk, and its words. -/
import Derived.Test.YthigfjelgbdcfaaDoorGAwake
import Derived.Test.YthigfjelgbdcfaaDoorGMemo

set_option linter.unusedSimpArgs false
set_option linter.unusedVariables false

namespace Go.Proofs.YthigfjelgbdcfaaDoor
open Go.RowKit Go.Maps

def sL : Code → Code
  | .seq a _ => a
  | _ => .skip
def sR : Code → Code
  | .seq _ b => b
  | _ => .skip
def inBlk : Code → Code
  | .block _ c => c
  | .loop c => c
  | c => c
noncomputable def lawBody : Code := (Tryd.f3.body).getD .skip
noncomputable def lawEnd : Code := sR (sR (sR (sR (sR (sR (sR (sR (sR (sR lawBody)))))))))
noncomputable def lawB1 : Code := inBlk (sL (sR (sR (inBlk (inBlk (sR (sL lawEnd)))))))
noncomputable def lawMid : Code := sR (sR (sR (sR lawBody)))
noncomputable def lawL1 : Code := inBlk (sR (sL lawEnd))
noncomputable def lawA2 : Code := sL (sR lawB1)
noncomputable def lawA3 : Code := sL (sR (sR lawB1))
noncomputable def lawA4 : Code := sL (sR (sR (sR lawB1)))
noncomputable def lawA5 : Code := sL (sR (sR (sR (sR lawB1))))
noncomputable def lawA6 : Code := sR (sR (sR (sR (sR lawB1))))
noncomputable def lawA7 : Code := sR (inBlk (sL (sR (sR (inBlk (inBlk (sR lawA6)))))))
noncomputable def lawL7 : Code := inBlk (sR lawA7)

theorem wp_calm {P : Program} {c : Code} {K : Act → World → Prop} {Q : Exit → Act → World → Prop} {a : Act} {w : World} (h : Code.wp P c (Exit.then K (fun _ _ _ => False)) a w) : Code.wp P c (Exit.then K Q) a w :=
  Code.wp_mono (fun e a w he => by cases e <;> first | exact he | exact he.elim) h
def spotU (k p c q i : Int) : Value := if Fit k p c then (if 0 ≤ q ∧ q < p ∧ 0 ≤ i ∧ i < homeF k c + 2 * p then spotV (atN k p c 3 q) i else spotE 1) else spotE 5
theorem spotU_form (k p c q i : Int) : ∃ x y r, spotU k p c q i = .tuple #[.int .i64 x, .int .i64 y, .int .i64 r] := by
  unfold spotU spotV spotE
  split
  · split
    · exact ⟨_, _, _, rfl⟩
    · exact ⟨_, _, _, rfl⟩
  · exact ⟨_, _, _, rfl⟩
theorem wSpotU (k p c q i : Int) (w : World) (ho : Objs w) : Calls Tryd.prog 18 #[conf k p c, .int .i64 q, .int .i64 i] w fun e w' => e = .returned (spotU k p c q i) ∧ Below w.heap.size w w' := by
  unfold spotU
  by_cases h : Fit k p c
  · rw [if_pos h]
    by_cases hq : 0 ≤ q ∧ q < p
    · by_cases hi : 0 ≤ i ∧ i < homeF k c + 2 * p
      · rw [if_pos ⟨hq.1, hq.2, hi.1, hi.2⟩]
        exact wSpot_ok k p c q i w ho h hq.1 hq.2 hi.1 hi.2
      · rw [if_neg (fun h => hi ⟨h.2.2.1, h.2.2.2⟩)]
        exact wSpot_arg k p c q i w ho h hq.1 hq.2 (by omega)
    · rw [if_neg (fun h => hq ⟨h.1, h.2.1⟩)]
      exact wSpot_at k p c q i w h (by omega)
  · rw [if_neg h]
    exact wSpot_conf k p c q i w h
theorem fSpotU (k p c q i : Int) (w : World) : Calls Tryd.prog 19 #[conf k p c, .int .i64 q, .int .i64 i] w fun e w' => e = .returned (spotU k p c q i) ∧ Below w.heap.size w w' := by
  unfold spotU
  by_cases h : Fit k p c
  · rw [if_pos h]
    by_cases hq : 0 ≤ q ∧ q < p
    · by_cases hi : 0 ≤ i ∧ i < homeF k c + 2 * p
      · rw [if_pos ⟨hq.1, hq.2, hi.1, hi.2⟩]
        exact fSpot_ok k p c q i w h hq.1 hq.2 hi.1 hi.2
      · rw [if_neg (fun h => hi ⟨h.2.2.1, h.2.2.2⟩)]
        exact fSpot_arg k p c q i w h hq.1 hq.2 (by omega)
    · rw [if_neg (fun h => hq ⟨h.1, h.2.1⟩)]
      exact fSpot_at k p c q i w h (by omega)
  · rw [if_neg h]
    exact fSpot_conf k p c q i w h
theorem sl_take {w : World} {a : Option Addr} {n cap m cap' : Nat} {cs ds es : List Value} (h : Sl w (.slice a n cap) n cs) (hm : m ≤ n) (hc : cs = ds ++ es) : Sl w (.slice a m cap') m ds := by
  obtain ⟨a', c', hv, h⟩ := h
  cases hv
  refine ⟨a, cap', rfl, fun h0 => ?_⟩
  obtain ⟨b, o, rfl, h1, h2⟩ := h (by omega)
  refine ⟨b, o, rfl, h1, fun j v hj => h2 j v ?_⟩
  rw [hc, List.getElem?_append_left (List.getElem?_eq_some_iff.1 hj).1]
  exact hj
theorem wrs_take (l : List (Int × Int)) (m : Nat) : wrs l = wrs (l.take m) ++ wrs (l.drop m) := by rw [← wrs_append, List.take_append_drop]
theorem cls_take (l : List (Int × Int)) (m : Nat) : cls l = cls (l.take m) ++ cls (l.drop m) := by rw [← cls_append, List.take_append_drop]
theorem u64s_take (l : List Int) (m : Nat) : u64s l = u64s (l.take m) ++ u64s (l.drop m) := by rw [← List.map_append, List.take_append_drop]
theorem packR_len (k p c : Int) (l : List (Int × Int)) : (packR k p c l).1.length ≤ 1000000000 := by
  unfold packR
  split
  · rename_i h
    split
    · simp
    · rename_i h2
      split
      · rename_i h3
        rw [packR_bd h3 h h2]
        have := logN_bd k p c
        omega
      · simp
  · simp
theorem unR_len (k p c : Int) (ws : List Int) : (unR k p c ws).1.length ≤ 1000000000 := by
  unfold unR
  split
  · rename_i h
    split
    · simp
    · rename_i h2
      split
      · have := homeF_bd h
        have h' := h
        unfold Fit at h'
        simp only [unL_len]
        have : ¬ (homeF k c + 2 * p < ws.getD 0 0) := fun hx => h2 (.inr hx)
        omega
      · simp
  · simp
theorem wipeR_len (k p c q : Int) (ms : List (Int × Int)) (h : ms.length ≤ 1000000) : (wipeR k p c q ms).1.length ≤ 1000000000 := by
  unfold wipeR
  split
  · split
    · simp only [wipeTo_len]; omega
    · simp
  · simp
theorem layR_len (k p c q : Int) (ms : List (Int × Int)) (h : ms.length ≤ 1000000) : (layR k p c q ms).1.length ≤ 1000000000 := by
  unfold layR
  split
  · split
    · split
      · simp only [layTo_len]; omega
      · simp
    · simp
  · simp
end Go.Proofs.YthigfjelgbdcfaaDoor
