/- What Unpack tells, in one word for the code and for the reference. -/
import Derived.Test.YthigfjelgbdcfaaDoorGUnW

set_option linter.unusedSimpArgs false
set_option linter.unusedVariables false

/-! Layer 16: Pack and Unpack, code and reference, each by one contract. -/
namespace Go.Proofs.YthigfjelgbdcfaaDoor
open Go.RowKit Go.Maps

open Classical in
/-- what Pack tells: words and reason -/
noncomputable def packR (k p c : Int) (l : List (Int × Int)) : List Int × Int :=
  if Fit k p c then (if homeF k c + 2 * p < l.length then ([], 4) else if PkOk k p c l l.length then (packW (logN k p c).toNat l, 0) else ([], 1)) else ([], 5)
open Classical in
/-- what Unpack tells: writes and reason -/
noncomputable def unR (k p c : Int) (ws : List Int) : List (Int × Int) × Int :=
  if Fit k p c then (if (ws.length : Int) ≠ logN k p c ∨ homeF k c + 2 * p < ws.getD 0 0 then ([], 2) else if UnOk k p c ws.length ws (ws.getD 0 0).toNat then (unL ws (ws.getD 0 0).toNat, 0) else ([], 2)) else ([], 5)

def PackPost (w : World) (R : List Int × Int) (e : Ending) (w' : World) : Prop := ∃ v, e = .returned (.tuple #[v, .int .i64 R.2]) ∧ w'.ownsRow w.heap.size 28 1 v R.1.length (u64s R.1) ∧ Below w.heap.size w w'
def UnPost (w : World) (R : List (Int × Int) × Int) (e : Ending) (w' : World) : Prop := ∃ v, e = .returned (.tuple #[v, .int .i64 R.2]) ∧ w'.ownsRow w.heap.size 71 2 v R.1.length (wrs R.1) ∧ Below w.heap.size w w'

theorem packR_bd {k p c : Int} {l : List (Int × Int)} (h : PkOk k p c l l.length) (hf : Fit k p c) (hl : ¬ homeF k c + 2 * p < l.length) : (packW (logN k p c).toNat l).length = (logN k p c).toNat := by
  refine packW_len ?_
  have := logN_yes hf
  omega

theorem wPack (k p c : Int) (sv : Value) (l : List (Int × Int)) (m : Nat) (w : World) (ho : Objs w) (hm : l.length = m) (hs : Sl w sv m (wrs l)) (hw : ∀ x ∈ l, (Lit.int .i64 x.1).wf = true) :
    Calls Tryd.prog 13 #[conf k p c, sv] w (PackPost w (packR k p c l)) := by
  unfold packR
  by_cases h : Fit k p c
  · rw [if_pos h]
    by_cases hl : homeF k c + 2 * p < l.length
    · rw [if_pos hl]
      refine (wPack_long k p c sv m _ w ho h hs (by rw [← hm]; exact hl)).mono ?_
      rintro e w' ⟨rfl, hb⟩
      exact ⟨_, rfl, World.ownsRow_nil _ _ _ _, hb⟩
    · rw [if_neg hl]
      by_cases hp : PkOk k p c l l.length
      · rw [if_pos hp]
        refine (wPack_ok k p c sv l m w ho hm h hs (by omega) hw (hm ▸ hp)).mono ?_
        rintro e w' ⟨⟨v, rfl, hv⟩, hb⟩
        refine ⟨_, rfl, ?_, hb⟩
        rw [packR_bd hp h hl]
        exact hv
      · rw [if_neg hp]
        refine (wPack_bad k p c sv l m w ho hm h hs (by omega) hw (hm ▸ hp)).mono ?_
        rintro e w' ⟨rfl, hb⟩
        exact ⟨_, rfl, World.ownsRow_nil _ _ _ _, hb⟩
  · rw [if_neg h]
    refine (wPack_conf k p c sv w h).mono ?_
    rintro e w' ⟨rfl, hb⟩
    exact ⟨_, rfl, World.ownsRow_nil _ _ _ _, hb⟩

theorem fPack (k p c : Int) (sv : Value) (l : List (Int × Int)) (m : Nat) (w : World) (hm : l.length = m) (hs : Sl w sv m (wrs l)) :
    Calls Tryd.prog 8 #[conf k p c, sv] w (PackPost w (packR k p c l)) := by
  unfold packR
  by_cases h : Fit k p c
  · rw [if_pos h]
    by_cases hl : homeF k c + 2 * p < l.length
    · rw [if_pos hl]
      refine (fPack_long k p c sv m _ w h hs (by rw [← hm]; exact hl)).mono ?_
      rintro e w' ⟨rfl, hb⟩
      exact ⟨_, rfl, World.ownsRow_nil _ _ _ _, hb⟩
    · rw [if_neg hl]
      by_cases hp : PkOk k p c l l.length
      · rw [if_pos hp]
        refine (fPack_ok k p c sv l m w hm h hs (by omega) (hm ▸ hp)).mono ?_
        rintro e w' ⟨⟨v, rfl, hv⟩, hb⟩
        refine ⟨_, rfl, ?_, hb⟩
        rw [packR_bd hp h hl]
        exact hv
      · rw [if_neg hp]
        refine (fPack_bad k p c sv l m w hm h hs (by omega) (hm ▸ hp)).mono ?_
        rintro e w' ⟨rfl, hb⟩
        exact ⟨_, rfl, World.ownsRow_nil _ _ _ _, hb⟩
  · rw [if_neg h]
    refine (fPack_conf k p c sv w h).mono ?_
    rintro e w' ⟨rfl, hb⟩
    exact ⟨_, rfl, World.ownsRow_nil _ _ _ _, hb⟩

/-- a list of words -/
def WordsOk (ws : List Int) : Prop := ∀ x ∈ ws, 0 ≤ x ∧ x ≤ 18446744073709551615
theorem WordsOk.getD {ws : List Int} (h : WordsOk ws) (j : Nat) : 0 ≤ ws.getD j 0 ∧ ws.getD j 0 ≤ 18446744073709551615 := by
  rcases Nat.lt_or_ge j ws.length with hj | hj
  · rw [List.getD_eq_getElem?_getD, List.getElem?_eq_getElem hj]
    exact h _ (List.getElem_mem _)
  · rw [List.getD_eq_getElem?_getD, List.getElem?_eq_none hj]
    simp

theorem wUn (k p c : Int) (sv : Value) (ws : List Int) (m : Nat) (w : World) (ho : Objs w) (hm : ws.length = m) (hs : Sl w sv m (u64s ws)) (hw : WordsOk ws) :
    Calls Tryd.prog 15 #[conf k p c, sv] w (UnPost w (unR k p c ws)) := by
  subst hm
  unfold unR
  by_cases h : Fit k p c
  · rw [if_pos h]
    have hLb := logN_bd k p c
    have hLe : logN k p c = ((logN k p c).toNat : Int) := by omega
    by_cases hl : (ws.length : Int) ≠ logN k p c
    · rw [if_pos (.inl hl)]
      refine (wUn_len k p c sv ws.length (logN k p c).toNat _ w ho h hLe hs (by omega)).mono ?_
      rintro e w' ⟨rfl, hb⟩
      exact ⟨_, rfl, World.ownsRow_nil _ _ _ _, hb⟩
    · have hl' : (ws.length : Int) = logN k p c := Classical.not_not.1 hl
      have hpos : 0 < ws.length := by have := logN_yes h; have := homeF_bd h; unfold Fit at h; omega
      by_cases hx : homeF k c + 2 * p < ws.getD 0 0
      · rw [if_pos (.inr hx)]
        obtain ⟨x0, xs, rfl⟩ : ∃ x0 xs, ws = x0 :: xs := by cases ws with | nil => simp at hpos | cons x0 xs => exact ⟨_, _, rfl⟩
        refine (wUn_long k p c sv _ (logN k p c).toNat x0 xs w ho h hLe (by omega) hs (by simpa using hx)).mono ?_
        rintro e w' ⟨rfl, hb⟩
        exact ⟨_, rfl, World.ownsRow_nil _ _ _ _, hb⟩
      · rw [if_neg (by rintro (h1 | h1); exact hl h1; exact hx h1)]
        have h0 := hw.getD 0
        refine (wUn_yes k p c sv ws.length ws.length (ws.getD 0 0).toNat ws w rfl ho h hl'.symm rfl (by omega) (by omega) hw.getD hs).mono ?_
        rintro e w' ⟨⟨h1, v, rfl, hv⟩ | ⟨h1, rfl⟩, hb⟩
        · rw [if_pos h1]
          exact ⟨_, rfl, by rw [unL_len]; exact hv, hb⟩
        · rw [if_neg h1]
          exact ⟨_, rfl, World.ownsRow_nil _ _ _ _, hb⟩
  · rw [if_neg h]
    refine (wUn_conf k p c sv w h).mono ?_
    rintro e w' ⟨rfl, hb⟩
    exact ⟨_, rfl, World.ownsRow_nil _ _ _ _, hb⟩

theorem fUn (k p c : Int) (sv : Value) (ws : List Int) (m : Nat) (w : World) (ho : Objs w) (hm : ws.length = m) (hs : Sl w sv m (u64s ws)) (hw : WordsOk ws) :
    Calls Tryd.prog 16 #[conf k p c, sv] w (UnPost w (unR k p c ws)) := by
  subst hm
  unfold unR
  by_cases h : Fit k p c
  · rw [if_pos h]
    have hLb := logN_bd k p c
    have hLe : logN k p c = ((logN k p c).toNat : Int) := by omega
    by_cases hl : (ws.length : Int) ≠ logN k p c
    · rw [if_pos (.inl hl)]
      refine (fUn_len k p c sv ws.length (logN k p c).toNat _ w ho h hLe hs (by omega)).mono ?_
      rintro e w' ⟨rfl, hb⟩
      exact ⟨_, rfl, World.ownsRow_nil _ _ _ _, hb⟩
    · have hl' : (ws.length : Int) = logN k p c := Classical.not_not.1 hl
      have hpos : 0 < ws.length := by have := logN_yes h; have := homeF_bd h; unfold Fit at h; omega
      by_cases hx : homeF k c + 2 * p < ws.getD 0 0
      · rw [if_pos (.inr hx)]
        obtain ⟨x0, xs, rfl⟩ : ∃ x0 xs, ws = x0 :: xs := by cases ws with | nil => simp at hpos | cons x0 xs => exact ⟨_, _, rfl⟩
        refine (fUn_long k p c sv _ (logN k p c).toNat x0 xs w ho h hLe (by omega) hs (by simpa using hx)).mono ?_
        rintro e w' ⟨rfl, hb⟩
        exact ⟨_, rfl, World.ownsRow_nil _ _ _ _, hb⟩
      · rw [if_neg (by rintro (h1 | h1); exact hl h1; exact hx h1)]
        have h0 := hw.getD 0
        refine (fUn_yes k p c sv ws.length ws.length (ws.getD 0 0).toNat ws w rfl ho h hl'.symm rfl (by omega) (by omega) hw.getD hs).mono ?_
        rintro e w' ⟨⟨h1, v, rfl, hv⟩ | ⟨h1, rfl⟩, hb⟩
        · rw [if_pos h1]
          exact ⟨_, rfl, by rw [unL_len]; exact hv, hb⟩
        · rw [if_neg h1]
          exact ⟨_, rfl, World.ownsRow_nil _ _ _ _, hb⟩
  · rw [if_neg h]
    refine (fUn_conf k p c sv w h).mono ?_
    rintro e w' ⟨rfl, hb⟩
    exact ⟨_, rfl, World.ownsRow_nil _ _ _ _, hb⟩

end Go.Proofs.YthigfjelgbdcfaaDoor
