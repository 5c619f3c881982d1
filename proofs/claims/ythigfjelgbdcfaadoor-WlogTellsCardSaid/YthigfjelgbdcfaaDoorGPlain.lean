/- The plain laws of region's sums and places, in whole numbers; no program in sight. -/
import Derived.WalkKit

/-! The plain functions of layers 4 and 16: numbers and lists alone. -/
namespace Go.Proofs.YthigfjelgbdcfaaDoor

/-- which configurations fit -/
def Fit (k p c : Int) : Prop := 1 ≤ k ∧ k < 6 ∧ 1 ≤ p ∧ p ≤ 16 ∧ 1 ≤ c ∧ c ≤ 256
instance (k p c : Int) : Decidable (Fit k p c) := by unfold Fit; infer_instance
def fitsB (k p c : Int) : Bool := decide (Fit k p c)
theorem fitsB_yes {k p c : Int} (h : Fit k p c) : fitsB k p c = true := decide_eq_true h
theorem fitsB_no {k p c : Int} (h : ¬ Fit k p c) : fitsB k p c = false := decide_eq_false h

/-- how many words an object has, where the configuration fits -/
def homeF (k c : Int) : Int := if k = 1 then 1 else if k = 2 then 1 + 2 * c else if k = 3 then 1 + 4 * c else if k = 4 then 2 + 4 * c else 9 + c
def homeN (k p c : Int) : Int := if Fit k p c then homeF k c else 0
def logN (k p c : Int) : Int := if Fit k p c then 1 + 2 * (homeF k c + 2 * p) else 0
def sizeN (k p c : Int) : Int := if Fit k p c then 1 + p * (5 + (1 + 2 * (homeF k c + 2 * p))) + homeF k c else 0
theorem homeF_bd {k p c : Int} (h : Fit k p c) : 1 ≤ homeF k c ∧ homeF k c ≤ 1026 := by
  unfold Fit at h
  unfold homeF
  repeat (split <;> try omega)

/-- 'homeF' hidden behind its bounds: how the walks use it -/
theorem homeN_yes {k p c : Int} (h : Fit k p c) : homeN k p c = homeF k c := if_pos h
theorem homeN_no {k p c : Int} (h : ¬ Fit k p c) : homeN k p c = 0 := if_neg h
theorem logN_yes {k p c : Int} (h : Fit k p c) : logN k p c = 1 + 2 * (homeF k c + 2 * p) := if_pos h
theorem logN_no {k p c : Int} (h : ¬ Fit k p c) : logN k p c = 0 := if_neg h
theorem sizeN_yes {k p c : Int} (h : Fit k p c) : sizeN k p c = 1 + p * (5 + (1 + 2 * (homeF k c + 2 * p))) + homeF k c := if_pos h
theorem sizeN_no {k p c : Int} (h : ¬ Fit k p c) : sizeN k p c = 0 := if_neg h
theorem homeN_bd (k p c : Int) : 0 ≤ homeN k p c ∧ homeN k p c ≤ 1026 := by
  by_cases h : Fit k p c
  · rw [homeN_yes h]; have := homeF_bd h; omega
  · rw [homeN_no h]; omega
theorem homeF_pos : 1 = 1 := rfl
theorem logN_bd (k p c : Int) : 0 ≤ logN k p c ∧ logN k p c ≤ 2117 := by
  by_cases h : Fit k p c
  · rw [logN_yes h]; have := homeF_bd h; unfold Fit at h; omega
  · rw [logN_no h]; omega
theorem mul_bd {a b A B : Int} (h0 : 0 ≤ a) (h1 : a ≤ A) (h2 : 0 ≤ b) (h3 : b ≤ B) : 0 ≤ a * b ∧ a * b ≤ A * B := ⟨Int.mul_nonneg h0 h2, Int.mul_le_mul h1 h3 h2 (by omega)⟩
theorem sizeN_bd (k p c : Int) : 0 ≤ sizeN k p c ∧ sizeN k p c ≤ 34979 := by
  by_cases h : Fit k p c
  · rw [sizeN_yes h]
    have := homeF_bd h
    unfold Fit at h
    have := mul_bd (a := p) (b := 5 + (1 + 2 * (homeF k c + 2 * p))) (A := 16) (B := 2122) (by omega) (by omega) (by omega) (by omega)
    omega
  · rw [sizeN_no h]; omega

end Go.Proofs.YthigfjelgbdcfaaDoor

/-! Layer 4, plain: the parts of memory, where they begin, which one a place lies in. -/
namespace Go.Proofs.YthigfjelgbdcfaaDoor

/-- how many cells a part has of one process; how many have such a part each; where the parts of a kind begin -/
def partSize (k p c i : Int) : Int := if i = 0 then 1 else if i = 1 then 3 else if i = 2 then 2 else if i = 3 then 1 + 2 * (homeF k c + 2 * p) else homeF k c
def partOwn (p i : Int) : Int := if i = 0 ∨ i = 4 then 1 else p
def preN (k p c i : Int) : Int := if i ≤ 0 then 0 else if i = 1 then 1 else if i = 2 then 1 + 3 * p else if i = 3 then 1 + 5 * p else if i = 4 then 1 + p * (5 + (1 + 2 * (homeF k c + 2 * p))) else 1 + p * (5 + (1 + 2 * (homeF k c + 2 * p))) + homeF k c

theorem five {i : Int} (h0 : 0 ≤ i) (h1 : i ≤ 4) : i = 0 ∨ i = 1 ∨ i = 2 ∨ i = 3 ∨ i = 4 := by omega

theorem pre_step {k p c i : Int} (h0 : 0 ≤ i) (h1 : i ≤ 4) : preN k p c (i + 1) = preN k p c i + partSize k p c i * partOwn p i := by
  rcases five h0 h1 with rfl | rfl | rfl | rfl | rfl
  · simp [preN, partSize, partOwn]
  · simp [preN, partSize, partOwn]
  · simp [preN, partSize, partOwn]; omega
  · simp [preN, partSize, partOwn]
    rw [Int.mul_comm (1 + 2 * (homeF k c + 2 * p)) p, Int.mul_add p 5]; omega
  · simp [preN, partSize, partOwn]

theorem part_bd {k p c i : Int} (h : Fit k p c) (h0 : 0 ≤ i) (h1 : i ≤ 4) : 1 ≤ partSize k p c i ∧ partSize k p c i ≤ 2117 ∧ 1 ≤ partOwn p i ∧ partOwn p i ≤ 16 := by
  have := homeF_bd h
  unfold Fit at h
  rcases five h0 h1 with rfl | rfl | rfl | rfl | rfl <;> simp [partSize, partOwn] <;> omega
theorem pre_bd {k p c i : Int} (h : Fit k p c) : 0 ≤ preN k p c i ∧ preN k p c i ≤ 34979 := by
  have hb := homeF_bd h
  have h' := h
  unfold Fit at h'
  have := mul_bd (a := p) (b := 5 + (1 + 2 * (homeF k c + 2 * p))) (A := 16) (B := 2122) (by omega) (by omega) (by omega) (by omega)
  unfold preN
  repeat (split; omega)
  omega
theorem prod_bd {k p c i : Int} (h : Fit k p c) (h0 : 0 ≤ i) (h1 : i ≤ 4) : 0 ≤ partSize k p c i * partOwn p i ∧ partSize k p c i * partOwn p i ≤ 33872 := by
  have := part_bd h h0 h1
  have := mul_bd (a := partSize k p c i) (b := partOwn p i) (A := 2117) (B := 16) (by omega) (by omega) (by omega) (by omega)
  omega
theorem pre_five {k p c : Int} (h : Fit k p c) : preN k p c 5 = sizeN k p c := by rw [sizeN_yes h]; simp [preN]

/-- where a part of a process begins -/
def atN (k p c i q : Int) : Int := preN k p c i + (if i = 0 ∨ i = 4 then 0 else q * partSize k p c i)
/-- which part a place is in, whose, how far -/
def whAt (k p c a i : Int) : Int × Int × Int := (i, (a - preN k p c i) / partSize k p c i, (a - preN k p c i) % partSize k p c i)
def whereN (k p c a : Int) : Int × Int × Int :=
  if Fit k p c ∧ 0 ≤ a then
    if a < preN k p c 1 then whAt k p c a 0 else if a < preN k p c 2 then whAt k p c a 1 else if a < preN k p c 3 then whAt k p c a 2
    else if a < preN k p c 4 then whAt k p c a 3 else if a < preN k p c 5 then whAt k p c a 4 else (5, 0, 0)
  else (5, 0, 0)

theorem pre_mono {k p c i : Int} (h : Fit k p c) (h0 : 0 ≤ i) (h1 : i ≤ 4) : preN k p c i < preN k p c (i + 1) := by
  rw [pre_step h0 h1]
  have := part_bd h h0 h1
  have : 0 < partSize k p c i * partOwn p i := Int.mul_pos (by omega) (by omega)
  omega

theorem where_at {k p c a i : Int} (h : Fit k p c) (h0 : 0 ≤ i) (h1 : i ≤ 4) (h2 : preN k p c i ≤ a) (h3 : a < preN k p c (i + 1)) : whereN k p c a = whAt k p c a i := by
  have m0 := pre_mono h (i := 0) (by omega) (by omega)
  have m1 := pre_mono h (i := 1) (by omega) (by omega)
  have m2 := pre_mono h (i := 2) (by omega) (by omega)
  have m3 := pre_mono h (i := 3) (by omega) (by omega)
  have m4 := pre_mono h (i := 4) (by omega) (by omega)
  have z : preN k p c 0 = 0 := by simp [preN]
  simp only [Int.reduceAdd] at m0 m1 m2 m3 m4
  unfold whereN
  rcases five h0 h1 with rfl | rfl | rfl | rfl | rfl <;> simp only [Int.reduceAdd] at h3
  · rw [if_pos ⟨h, by omega⟩, if_pos (by omega)]
  · rw [if_pos ⟨h, by omega⟩, if_neg (by omega), if_pos (by omega)]
  · rw [if_pos ⟨h, by omega⟩, if_neg (by omega), if_neg (by omega), if_pos (by omega)]
  · rw [if_pos ⟨h, by omega⟩, if_neg (by omega), if_neg (by omega), if_neg (by omega), if_pos (by omega)]
  · rw [if_pos ⟨h, by omega⟩, if_neg (by omega), if_neg (by omega), if_neg (by omega), if_neg (by omega), if_pos (by omega)]

theorem where_no {k p c a : Int} (h : ¬ Fit k p c ∨ a < 0) : whereN k p c a = (5, 0, 0) := by
  unfold whereN
  rw [if_neg (by rintro ⟨h1, h2⟩; rcases h with h | h; exact h h1; omega)]

theorem where_end {k p c a : Int} (h : Fit k p c) (h2 : preN k p c 5 ≤ a) : whereN k p c a = (5, 0, 0) := by
  have m0 := pre_mono h (i := 0) (by omega) (by omega)
  have m1 := pre_mono h (i := 1) (by omega) (by omega)
  have m2 := pre_mono h (i := 2) (by omega) (by omega)
  have m3 := pre_mono h (i := 3) (by omega) (by omega)
  have m4 := pre_mono h (i := 4) (by omega) (by omega)
  have z : preN k p c 0 = 0 := by simp [preN]
  simp only [Int.reduceAdd] at m0 m1 m2 m3 m4
  unfold whereN
  rw [if_pos ⟨h, by omega⟩, if_neg (by omega), if_neg (by omega), if_neg (by omega), if_neg (by omega), if_neg (by omega)]

end Go.Proofs.YthigfjelgbdcfaaDoor

/-! Layer 4, plain: the list of all parts. -/
namespace Go.Proofs.YthigfjelgbdcfaaDoor

abbrev Part := Int × Int × Int × Int
/-- the part of kind j of process o: its kind, whose, from, to -/
def partK (k p c : Int) (j o : Nat) : Part := (j, o, preN k p c j + o * partSize k p c j, preN k p c j + o * partSize k p c j + partSize k p c j)
def partsJ (k p c : Int) (j m : Nat) : List Part := (List.range m).map (partK k p c j)
def ownNat (p : Int) (j : Nat) : Nat := (partOwn p j).toNat
def partsTo (k p c : Int) : Nat → List Part
  | 0 => []
  | j + 1 => partsTo k p c j ++ partsJ k p c j (ownNat p j)
def partsL (k p c : Int) : List Part := partsTo k p c 5

theorem partsJ_succ (k p c : Int) (j m : Nat) : partsJ k p c j (m + 1) = partsJ k p c j m ++ [partK k p c j m] := by simp [partsJ, List.range_succ]
theorem partsJ_prefix (k p c : Int) (j : Nat) {m n : Nat} (h : m ≤ n) : partsJ k p c j m <+: partsJ k p c j n := by
  obtain ⟨d, rfl⟩ := Nat.exists_eq_add_of_le h
  clear h
  induction d with
  | zero => exact List.prefix_refl _
  | succ d ih => exact ih.trans (by rw [show m + (d + 1) = (m + d) + 1 from rfl, partsJ_succ]; exact List.prefix_append _ _)
theorem partsTo_prefix (k p c : Int) {j i : Nat} (h : j ≤ i) : partsTo k p c j <+: partsTo k p c i := by
  obtain ⟨d, rfl⟩ := Nat.exists_eq_add_of_le h
  clear h
  induction d with
  | zero => exact List.prefix_refl _
  | succ d ih => exact ih.trans (List.prefix_append _ _)
theorem parts_prefix (k p c : Int) {j m : Nat} (hj : j < 5) (hm : m ≤ ownNat p j) : partsTo k p c j ++ partsJ k p c j m <+: partsL k p c := by
  refine List.IsPrefix.trans ?_ (partsTo_prefix k p c (j := j + 1) (i := 5) (by omega))
  exact (List.prefix_append_right_inj _).2 (partsJ_prefix k p c j hm)
theorem parts_len (k p c : Int) {j m : Nat} (hj : j < 5) (hm : m < ownNat p j) : (partsTo k p c j ++ partsJ k p c j m).length < (partsL k p c).length := by
  have h := (parts_prefix k p c hj (m := m + 1) (by omega)).length_le
  rw [partsJ_succ] at h
  simp at h
  simp; omega

/-- where the last part ends -/
def lastTo (l : List Part) : Int := (l.getLast?.map (·.2.2.2)).getD 0
theorem lastTo_snoc (l : List Part) (x : Part) : lastTo (l ++ [x]) = x.2.2.2 := by simp [lastTo]
theorem lastTo_parts {k p c : Int} (h : Fit k p c) : lastTo (partsL k p c) = sizeN k p c := by
  have e : partsL k p c = partsTo k p c 4 ++ [partK k p c 4 0] := by
    show partsTo k p c 4 ++ partsJ k p c 4 (ownNat p 4) = _
    have : ownNat p 4 = 1 := by simp [ownNat, partOwn]
    rw [this]
    rfl
  rw [e, lastTo_snoc, ← pre_five h]
  have h4 := pre_step (k := k) (p := p) (c := c) (i := 4) (by omega) (by omega)
  have ho : partOwn p 4 = 1 := by simp [partOwn]
  rw [ho] at h4
  simp only [partK, Int.reduceAdd] at *
  rw [h4]
  simp

end Go.Proofs.YthigfjelgbdcfaaDoor

/-! Layer 4, plain: what is found in the list of parts. -/
namespace Go.Proofs.YthigfjelgbdcfaaDoor

theorem mem_partsTo {k p c : Int} {x : Part} : ∀ {i : Nat}, x ∈ partsTo k p c i ↔ ∃ j o, j < i ∧ o < ownNat p j ∧ x = partK k p c j o
  | 0 => by simp [partsTo]
  | i + 1 => by
    rw [partsTo, List.mem_append, mem_partsTo, partsJ, List.mem_map]
    constructor
    · rintro (⟨j, o, hj, ho, rfl⟩ | ⟨o, ho, rfl⟩)
      · exact ⟨j, o, by omega, ho, rfl⟩
      · exact ⟨i, o, by omega, by simpa using ho, rfl⟩
    · rintro ⟨j, o, hj, ho, rfl⟩
      by_cases h : j = i
      · subst h; exact .inr ⟨o, by simpa using ho, rfl⟩
      · exact .inl ⟨j, o, by omega, ho, rfl⟩
theorem mem_parts {k p c : Int} {x : Part} : x ∈ partsL k p c ↔ ∃ j o, j < 5 ∧ o < ownNat p j ∧ x = partK k p c j o := mem_partsTo

theorem where_found {k p c a : Int} {x : Part} (h : Fit k p c) (hx : x ∈ partsL k p c) (h1 : x.2.2.1 ≤ a) (h2 : a < x.2.2.2) : whereN k p c a = (x.1, x.2.1, a - x.2.2.1) := by
  obtain ⟨j, o, hj, ho, rfl⟩ := mem_parts.1 hx
  simp only [partK] at *
  have hb := part_bd h (i := j) (by omega) (by omega)
  have ho2 : (o : Int) + 1 ≤ partOwn p j := by unfold ownNat at ho; omega
  have hs := pre_step (k := k) (p := p) (c := c) (i := j) (by omega) (by omega)
  have h0 : 0 ≤ (o : Int) * partSize k p c j := Int.mul_nonneg (by omega) (by omega)
  have hm : ((o : Int) + 1) * partSize k p c j ≤ partOwn p j * partSize k p c j := Int.mul_le_mul_of_nonneg_right ho2 (by omega)
  rw [Int.add_mul, Int.one_mul, Int.mul_comm (partOwn p j)] at hm
  rw [where_at h (i := j) (by omega) (by omega) (by omega) (by omega)]
  unfold whAt
  obtain ⟨r, hr⟩ : ∃ r, a - preN k p c j = r + o * partSize k p c j := ⟨a - preN k p c j - o * partSize k p c j, by omega⟩
  have hd : (a - preN k p c j) / partSize k p c j = o := by
    rw [hr, Int.add_mul_ediv_right _ _ (by omega), Int.ediv_eq_zero_of_lt (by omega) (by omega)]; omega
  have hmod : (a - preN k p c j) % partSize k p c j = a - (preN k p c j + o * partSize k p c j) := by
    rw [hr, Int.add_mul_emod_self_right, Int.emod_eq_of_lt (by omega) (by omega)]; omega
  rw [hd, hmod]

theorem where_none {k p c a : Int} (h : Fit k p c) (hx : ∀ x ∈ partsL k p c, ¬ (x.2.2.1 ≤ a ∧ a < x.2.2.2)) : whereN k p c a = (5, 0, 0) := by
  by_cases h0 : 0 ≤ a
  · by_cases h5 : preN k p c 5 ≤ a
    · exact where_end h h5
    · exfalso
      have z : preN k p c 0 = 0 := by simp [preN]
      obtain ⟨j, hj, hj1, hj2⟩ : ∃ j : Nat, j < 5 ∧ preN k p c j ≤ a ∧ a < preN k p c ((j : Int) + 1) := by
        by_cases h1 : a < preN k p c 1
        · exact ⟨0, by omega, by simpa [z] using h0, h1⟩
        by_cases h2 : a < preN k p c 2
        · exact ⟨1, by omega, by simpa using h1, h2⟩
        by_cases h3 : a < preN k p c 3
        · exact ⟨2, by omega, by simpa using h2, h3⟩
        by_cases h4 : a < preN k p c 4
        · exact ⟨3, by omega, by simpa using h3, h4⟩
        · exact ⟨4, by omega, by simpa using h4, by simpa using h5⟩
      have hb := part_bd h (i := j) (by omega) (by omega)
      rw [pre_step (by omega) (by omega)] at hj2
      have hdm := Int.emod_add_mul_ediv (a - preN k p c j) (partSize k p c j)
      have hr0 := Int.emod_nonneg (a - preN k p c j) (b := partSize k p c j) (by omega)
      have hr1 := Int.emod_lt_of_pos (a - preN k p c j) (b := partSize k p c j) (by omega)
      have hq0 : 0 ≤ (a - preN k p c j) / partSize k p c j := Int.ediv_nonneg (by omega) (by omega)
      have hq1 : (a - preN k p c j) / partSize k p c j < partOwn p j := by
        refine Int.ediv_lt_of_lt_mul (by omega) ?_
        rw [Int.mul_comm]; omega
      generalize (a - preN k p c j) / partSize k p c j = q at *
      generalize (a - preN k p c j) % partSize k p c j = r at *
      obtain ⟨o, rfl⟩ := Int.eq_ofNat_of_zero_le hq0
      refine hx (partK k p c j o) (mem_parts.2 ⟨j, o, hj, by unfold ownNat; omega, rfl⟩) ?_
      simp only [partK]
      rw [Int.mul_comm] at hdm
      omega
  · exact where_no (.inr (by omega))

theorem at_mem {k p c i q : Int} (h0 : 0 ≤ i) (h1 : i ≤ 4) (q0 : 0 ≤ q) (q1 : q < partOwn p i) : ∃ x ∈ partsL k p c, x.1 = i ∧ x.2.1 = q := by
  obtain ⟨j, rfl⟩ := Int.eq_ofNat_of_zero_le h0
  obtain ⟨o, rfl⟩ := Int.eq_ofNat_of_zero_le q0
  exact ⟨partK k p c j o, mem_parts.2 ⟨j, o, by omega, by unfold ownNat; omega, rfl⟩, rfl, rfl⟩

theorem at_found {k p c i q : Int} {x : Part} (hx : x ∈ partsL k p c) (h1 : x.1 = i) (h2 : x.2.1 = q) : x.2.2.1 = preN k p c i + q * partSize k p c i := by
  obtain ⟨j, o, hj, ho, rfl⟩ := mem_parts.1 hx
  simp only [partK] at *
  subst h1 h2
  rfl

theorem mem_bd {k p c : Int} {x : Part} (h : Fit k p c) (hx : x ∈ partsL k p c) : 0 ≤ x.2.2.1 ∧ x.2.2.1 < x.2.2.2 ∧ x.2.2.2 ≤ 100000 ∧ 0 ≤ x.1 ∧ x.1 ≤ 4 ∧ 0 ≤ x.2.1 ∧ x.2.1 < partOwn p x.1 := by
  obtain ⟨j, o, hj, ho, rfl⟩ := mem_parts.1 hx
  simp only [partK]
  have hb := part_bd h (i := j) (by omega) (by omega)
  have hp := pre_bd h (i := j)
  have ho2 : (o : Int) + 1 ≤ partOwn p j := by unfold ownNat at ho; omega
  have h0 : 0 ≤ (o : Int) * partSize k p c j := Int.mul_nonneg (by omega) (by omega)
  have h1 : (o : Int) * partSize k p c j ≤ 15 * 2117 := Int.mul_le_mul (by omega) (by omega) (by omega) (by omega)
  omega

theorem at_bd {k p c i q : Int} (h : Fit k p c) (h0 : 0 ≤ i) (h1 : i ≤ 4) (q0 : 0 ≤ q) (q1 : q < p) : 0 ≤ atN k p c i q ∧ atN k p c i q ≤ 100000 := by
  have hb := part_bd h h0 h1
  have hp := pre_bd h (i := i)
  have hp16 : p ≤ 16 := by unfold Fit at h; omega
  have m0 : 0 ≤ q * partSize k p c i := Int.mul_nonneg (by omega) (by omega)
  have m1 : q * partSize k p c i ≤ 15 * 2117 := Int.mul_le_mul (by omega) (by omega) (by omega) (by omega)
  unfold atN
  split <;> omega

end Go.Proofs.YthigfjelgbdcfaaDoor
