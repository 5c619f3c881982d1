/- Slices that read as lists; the contracts of the comparisons of words, writes and cells. -/
import Derived.Test.YthigfjelgbdcfaaDoorGRegF

/-! Slices in memory, and what compares them. -/
namespace Go.Proofs.YthigfjelgbdcfaaDoor
open Go.RowKit

abbrev u64s (xs : List Int) : List Value := xs.map (Value.int .u64)
def wrs : List (Int × Int) → List Value
  | [] => []
  | x :: r => .int .i64 x.1 :: .int .u64 x.2 :: wrs r
def cls : List (Int × Int) → List Value
  | [] => []
  | x :: r => .int .u64 x.1 :: .int .i64 x.2 :: cls r

theorem wrs_at : ∀ (l : List (Int × Int)) (j : Nat) (x : Int × Int), l[j]? = some x → (wrs l)[2 * j]? = some (.int .i64 x.1) ∧ (wrs l)[2 * j + 1]? = some (.int .u64 x.2)
  | [], j, x, h => by simp at h
  | y :: r, 0, x, h => by simp at h; subst h; simp [wrs]
  | y :: r, j + 1, x, h => by
    have := wrs_at r j x (by simpa using h)
    rw [show 2 * (j + 1) = 2 * j + 1 + 1 by omega]
    simpa [wrs] using this
theorem cls_at : ∀ (l : List (Int × Int)) (j : Nat) (x : Int × Int), l[j]? = some x → (cls l)[2 * j]? = some (.int .u64 x.1) ∧ (cls l)[2 * j + 1]? = some (.int .i64 x.2)
  | [], j, x, h => by simp at h
  | y :: r, 0, x, h => by simp at h; subst h; simp [cls]
  | y :: r, j + 1, x, h => by
    have := cls_at r j x (by simpa using h)
    rw [show 2 * (j + 1) = 2 * j + 1 + 1 by omega]
    simpa [cls] using this
theorem wrs_len : ∀ l : List (Int × Int), (wrs l).length = 2 * l.length
  | [] => rfl
  | x :: r => by simp [wrs, wrs_len r]; omega
theorem cls_len : ∀ l : List (Int × Int), (cls l).length = 2 * l.length
  | [] => rfl
  | x :: r => by simp [cls, cls_len r]; omega

/-- a slice of n elements, whose cells are cs -/
def Sl (w : World) (v : Value) (n : Nat) (cs : List Value) : Prop :=
  ∃ (a : Option Addr) (cap : Nat), v = .slice a n cap ∧ (0 < n → ∃ b o, a = some ⟨b, o, none⟩ ∧ b < w.heap.size ∧ ∀ j v, cs[j]? = some v → w.cell? ⟨b, o + j, none⟩ = some v)
theorem Sl.below {w w' : World} {v : Value} {n : Nat} {cs : List Value} (h : Sl w v n cs) (hb : Below w.heap.size w w') : Sl w' v n cs := by
  obtain ⟨a, cap, rfl, h⟩ := h
  refine ⟨a, cap, rfl, fun hn => ?_⟩
  obtain ⟨b, o, rfl, h1, h2⟩ := h hn
  exact ⟨b, o, rfl, Nat.lt_of_lt_of_le h1 hb.size, fun j v hj => (hb.cell (p := ⟨b, o + j, none⟩) h1).trans (h2 j v hj)⟩
theorem Sl.nil (w : World) : Sl w (.slice none 0 0) 0 [] := ⟨none, 0, rfl, fun h => by omega⟩

/-- what a slice that is not empty reads as, in a later world -/
theorem Sl.at {a : Option Addr} {w : World} {n : Nat} {cs : List Value} (h : 0 < n → ∃ b o, a = some ⟨b, o, none⟩ ∧ b < w.heap.size ∧ ∀ j v, cs[j]? = some v → w.cell? ⟨b, o + j, none⟩ = some v) (hn : 0 < n) :
    ∃ b o, a = some ⟨b, o, none⟩ ∧ ∀ W, Below w.heap.size w W → ∀ j v, cs[j]? = some v → W.cell? ⟨b, o + j, none⟩ = some v := by
  obtain ⟨b, o, rfl, h1, h2⟩ := h hn
  exact ⟨b, o, rfl, fun W hB j v hj => (hB.cell (p := ⟨b, o + j, none⟩) h1).trans (h2 j v hj)⟩

theorem words_ne (va vb : Value) (m n : Nat) (cs ds : List Value) (w : World) (ha : Sl w va m cs) (hb : Sl w vb n ds) (hne : (m : Int) ≠ n) :
    Calls Tryd.prog 14 #[va, vb] w fun e w' => e = .returned (.bool false) ∧ Below w.heap.size w w' := by
  obtain ⟨a1, c1, rfl, h1⟩ := ha
  obtain ⟨a2, c2, rfl, h2⟩ := hb
  clear h1 h2
  have hb : ((m : Int) != n) = true := by simpa using hne
  clear hne
  go_enter Tryd.func14, Tryd.ntmps14
  go_wp2
  go_ret
  exact ⟨rfl, (by repeat (first | exact Below.refl _ _ | assumption | refine Below.drew ?_ | refine Below.alloc ?_ (by first | omega | (simp; omega) | (simp; done)) _ | refine Below.setCell ?_ (by first | omega | (simp; omega) | (simp; done)) _))⟩

set_option maxHeartbeats 1000000 in
theorem words_eq (va vb : Value) (xs ys : List Int) (m : Nat) (w : World) (hx : xs.length = m) (hy : ys.length = m) (ha : Sl w va m (u64s xs)) (hb : Sl w vb m (u64s ys)) (hl : m ≤ 1000000000) :
    Calls Tryd.prog 14 #[va, vb] w fun e w' => e = .returned (.bool (decide (xs = ys))) ∧ Below w.heap.size w w' := by
  obtain ⟨a1, c1, rfl, h1⟩ := ha
  obtain ⟨a2, c2, rfl, h2⟩ := hb
  have H1 := Lib.hid h1
  have H2 := Lib.hid h2
  have HX := Lib.hid hx
  have HY := Lib.hid hy
  clear h1 h2 hx hy
  go_enter Tryd.func14, Tryd.ntmps14
  go_wp2
  go_loopw [5] (fun i wr => ∃ n : Nat, n ≤ m ∧ i = .int .i64 n ∧ Hid (xs.take n = ys.take n) ∧ Below w.heap.size w wr) (fun i _ => m - (intOf i).toNat)
  case atStart => exact ⟨0, by omega, rfl, Lib.hid (by simp), Below.refl _ _⟩
  case round =>
    obtain ⟨n, hn, rfl, htk, hB⟩ := hrel
    by_cases hlt : n = m
    · subst hlt
      have hd := Lib.hid (show decide (xs = ys) = true from decide_eq_true (by have h := htk.out; rw [List.take_of_length_le (by rw [HX.out]; omega), List.take_of_length_le (by rw [HY.out]; omega)] at h; exact h))
      clear htk hn
      go_wp2
      go_ret
      exact ⟨by rw [hd.out]; rfl, (by repeat (first | exact Below.refl _ _ | assumption | refine Below.drew ?_ | refine Below.alloc ?_ (by first | omega | (simp; omega) | (simp; done)) _ | refine Below.setCell ?_ (by first | omega | (simp; omega) | (simp; done)) _))⟩
    · have hn' : n < m := by omega
      clear hn hlt
      obtain ⟨b1, o1, rfl, k1⟩ := Sl.at H1.out (by omega)
      obtain ⟨b2, o2, rfl, k2⟩ := Sl.at H2.out (by omega)
      obtain ⟨x, hx⟩ : ∃ x, xs[n]? = some x := ⟨_, List.getElem?_eq_getElem (by rw [HX.out]; exact hn')⟩
      obtain ⟨y, hy⟩ : ∃ y, ys[n]? = some y := ⟨_, List.getElem?_eq_getElem (by rw [HY.out]; exact hn')⟩
      have e1 := k1 wr hB n _ (show _ = some (.int .u64 x) by simp [hx])
      have e2 := k2 wr hB n _ (show _ = some (.int .u64 y) by simp [hy])
      have Hxy := Lib.hid (And.intro hx hy)
      have HB := Lib.hid hB
      clear k1 k2 hx hy hB H1 H2
      by_cases hxy : x = y
      · have T1 := Lib.hid (show xs.take (n + 1) = ys.take (n + 1) by rw [List.take_add_one, List.take_add_one, htk.out, Hxy.out.1, Hxy.out.2, hxy])
        have hq : (x != y) = false := by simpa using hxy
        clear hxy
        go_wp2
        go_quiet (fail)
        go_wp2
        go_roundw
        case rel => exact ⟨n + 1, by omega, by go_num, T1, below_drewN HB.out _⟩
        case measure => simp [intOf]; omega
      · have hd := Lib.hid (show decide (xs = ys) = false from decide_eq_false (fun h => by have h1 := Hxy.out; rw [h, h1.2] at h1; simp at h1; exact hxy h1.symm))
        have hq : (x != y) = true := by simpa using hxy
        clear hxy
        go_wp2
        go_quiet (fail)
        go_wp2
        go_ret
        exact ⟨by rw [hd.out]; rfl, below_drewN HB.out _⟩

theorem words (va vb : Value) (xs ys : List Int) (w : World) (ha : Sl w va xs.length (u64s xs)) (hb : Sl w vb ys.length (u64s ys)) (hl : xs.length ≤ 1000000000) :
    Calls Tryd.prog 14 #[va, vb] w fun e w' => e = .returned (.bool (decide (xs = ys))) ∧ Below w.heap.size w w' := by
  by_cases h : xs.length = ys.length
  · exact words_eq va vb xs ys xs.length w rfl h.symm ha (h ▸ hb) hl
  · rw [show decide (xs = ys) = false from decide_eq_false (fun e => h (by rw [e]))]
    exact words_ne va vb _ _ _ _ w ha hb (by omega)

end Go.Proofs.YthigfjelgbdcfaaDoor

namespace Go.Proofs.YthigfjelgbdcfaaDoor
open Go.RowKit

theorem writes_ne (va vb : Value) (m n : Nat) (cs ds : List Value) (w : World) (ha : Sl w va m cs) (hb : Sl w vb n ds) (hne : (m : Int) ≠ n) :
    Calls Tryd.prog 17 #[va, vb] w fun e w' => e = .returned (.bool false) ∧ Below w.heap.size w w' := by
  obtain ⟨a1, c1, rfl, h1⟩ := ha
  obtain ⟨a2, c2, rfl, h2⟩ := hb
  clear h1 h2
  have hb : ((m : Int) != n) = true := by simpa using hne
  clear hne
  go_enter Tryd.func17, Tryd.ntmps17
  go_wp2
  go_ret
  exact ⟨rfl, (by repeat (first | exact Below.refl _ _ | assumption | refine Below.drew ?_ | refine Below.alloc ?_ (by first | omega | (simp; omega) | (simp; done)) _ | refine Below.setCell ?_ (by first | omega | (simp; omega) | (simp; done)) _))⟩

set_option maxHeartbeats 1000000 in
theorem writes_eq (va vb : Value) (xs ys : List (Int × Int)) (m : Nat) (w : World) (hx : xs.length = m) (hy : ys.length = m) (ha : Sl w va m (wrs xs)) (hb : Sl w vb m (wrs ys)) (hl : m ≤ 1000000000) :
    Calls Tryd.prog 17 #[va, vb] w fun e w' => e = .returned (.bool (decide (xs = ys))) ∧ Below w.heap.size w w' := by
  obtain ⟨a1, c1, rfl, h1⟩ := ha
  obtain ⟨a2, c2, rfl, h2⟩ := hb
  have H1 := Lib.hid h1
  have H2 := Lib.hid h2
  have HX := Lib.hid hx
  have HY := Lib.hid hy
  clear h1 h2 hx hy
  go_enter Tryd.func17, Tryd.ntmps17
  go_wp2
  go_loopw [5] (fun i wr => ∃ n : Nat, n ≤ m ∧ i = .int .i64 n ∧ Hid (xs.take n = ys.take n) ∧ Below w.heap.size w wr) (fun i _ => m - (intOf i).toNat)
  case atStart => exact ⟨0, by omega, rfl, Lib.hid (by simp), Below.refl _ _⟩
  case round =>
    obtain ⟨n, hn, rfl, htk, hB⟩ := hrel
    by_cases hlt : n = m
    · subst hlt
      have hd := Lib.hid (show decide (xs = ys) = true from decide_eq_true (by have h := htk.out; rw [List.take_of_length_le (by rw [HX.out]; omega), List.take_of_length_le (by rw [HY.out]; omega)] at h; exact h))
      clear htk hn
      go_wp2
      go_ret
      exact ⟨by rw [hd.out]; rfl, (by repeat (first | exact Below.refl _ _ | assumption | refine Below.drew ?_ | refine Below.alloc ?_ (by first | omega | (simp; omega) | (simp; done)) _ | refine Below.setCell ?_ (by first | omega | (simp; omega) | (simp; done)) _))⟩
    · have hn' : n < m := by omega
      clear hn hlt
      obtain ⟨b1, o1, rfl, k1⟩ := Sl.at H1.out (by omega)
      obtain ⟨b2, o2, rfl, k2⟩ := Sl.at H2.out (by omega)
      obtain ⟨x, hx⟩ : ∃ x, xs[n]? = some x := ⟨_, List.getElem?_eq_getElem (by rw [HX.out]; exact hn')⟩
      obtain ⟨y, hy⟩ : ∃ y, ys[n]? = some y := ⟨_, List.getElem?_eq_getElem (by rw [HY.out]; exact hn')⟩
      obtain ⟨x1, x2⟩ := x
      obtain ⟨y1, y2⟩ := y
      have e1 : wr.cell? ⟨b1, o1 + n * 2, none⟩ = some (.int .i64 x1) := by rw [Nat.mul_comm]; exact k1 wr hB (2 * n) _ (wrs_at _ _ _ hx).1
      have e2 : wr.cell? ⟨b2, o2 + n * 2, none⟩ = some (.int .i64 y1) := by rw [Nat.mul_comm]; exact k2 wr hB (2 * n) _ (wrs_at _ _ _ hy).1
      have e3 : wr.cell? ⟨b1, o1 + n * 2 + 1, none⟩ = some (.int .u64 x2) := by rw [Nat.mul_comm]; exact k1 wr hB (2 * n + 1) _ (wrs_at _ _ _ hx).2
      have e4 : wr.cell? ⟨b2, o2 + n * 2 + 1, none⟩ = some (.int .u64 y2) := by rw [Nat.mul_comm]; exact k2 wr hB (2 * n + 1) _ (wrs_at _ _ _ hy).2
      have Hxy := Lib.hid (And.intro hx hy)
      have HB := Lib.hid hB
      clear k1 k2 hx hy hB H1 H2
      by_cases hxy : x1 = y1 ∧ x2 = y2
      · obtain ⟨rfl, rfl⟩ := hxy
        have T1 := Lib.hid (show xs.take (n + 1) = ys.take (n + 1) by rw [List.take_add_one, List.take_add_one, htk.out, Hxy.out.1, Hxy.out.2])
        go_wp2
        go_quiet (fail)
        go_wp2
        go_roundw
        case rel => exact ⟨n + 1, by omega, by go_num, T1, below_drewN HB.out _⟩
        case measure => simp [intOf]; omega
      · have hd := Lib.hid (show decide (xs = ys) = false from decide_eq_false (fun h => by have h1 := Hxy.out; rw [h, h1.2] at h1; simp at h1; exact hxy ⟨h1.1.symm, h1.2.symm⟩))
        by_cases hx1 : x1 = y1
        · have hx2 : ¬ x2 = y2 := fun h => hxy ⟨hx1, h⟩
          subst hx1
          have q2 : (x2 == y2) = false := by simpa using hx2
          have q3 : (x2 != y2) = true := by simpa using hx2
          clear hxy hx2
          go_wp2
          go_quiet (fail)
          go_wp2
          go_ret
          exact ⟨by rw [hd.out]; rfl, below_drewN HB.out _⟩
        · have q1 : (x1 == y1) = false := by simpa using hx1
          have q3 : (x1 != y1) = true := by simpa using hx1
          clear hxy hx1
          go_wp2
          go_quiet (fail)
          go_wp2
          go_ret
          exact ⟨by rw [hd.out]; rfl, below_drewN HB.out _⟩

theorem writes (va vb : Value) (xs ys : List (Int × Int)) (w : World) (ha : Sl w va xs.length (wrs xs)) (hb : Sl w vb ys.length (wrs ys)) (hl : xs.length ≤ 1000000000) :
    Calls Tryd.prog 17 #[va, vb] w fun e w' => e = .returned (.bool (decide (xs = ys))) ∧ Below w.heap.size w w' := by
  by_cases h : xs.length = ys.length
  · exact writes_eq va vb xs ys xs.length w rfl h.symm ha (h ▸ hb) hl
  · rw [show decide (xs = ys) = false from decide_eq_false (fun e => h (by rw [e]))]
    exact writes_ne va vb _ _ _ _ w ha hb (by omega)

end Go.Proofs.YthigfjelgbdcfaaDoor

namespace Go.Proofs.YthigfjelgbdcfaaDoor
open Go.RowKit

theorem same_ne (va vb : Value) (m n : Nat) (cs ds : List Value) (w : World) (ha : Sl w va m cs) (hb : Sl w vb n ds) (hne : (m : Int) ≠ n) :
    Calls Tryd.prog 25 #[.agg #[va], .agg #[vb]] w fun e w' => e = .returned (.bool false) ∧ Below w.heap.size w w' := by
  obtain ⟨a1, c1, rfl, h1⟩ := ha
  obtain ⟨a2, c2, rfl, h2⟩ := hb
  clear h1 h2
  have hb : ((m : Int) != n) = true := by simpa using hne
  clear hne
  go_enter Tryd.func25, Tryd.ntmps25
  go_wp2
  go_ret
  exact ⟨rfl, (by repeat (first | exact Below.refl _ _ | assumption | refine Below.drew ?_ | refine Below.alloc ?_ (by first | omega | (simp; omega) | (simp; done)) _ | refine Below.setCell ?_ (by first | omega | (simp; omega) | (simp; done)) _))⟩

set_option maxHeartbeats 1000000 in
theorem same_eq (va vb : Value) (xs ys : List (Int × Int)) (m : Nat) (w : World) (hx : xs.length = m) (hy : ys.length = m) (ha : Sl w va m (cls xs)) (hb : Sl w vb m (cls ys)) (hl : m ≤ 1000000000) :
    Calls Tryd.prog 25 #[.agg #[va], .agg #[vb]] w fun e w' => e = .returned (.bool (decide (xs = ys))) ∧ Below w.heap.size w w' := by
  obtain ⟨a1, c1, rfl, h1⟩ := ha
  obtain ⟨a2, c2, rfl, h2⟩ := hb
  have H1 := Lib.hid h1
  have H2 := Lib.hid h2
  have HX := Lib.hid hx
  have HY := Lib.hid hy
  clear h1 h2 hx hy
  obtain ⟨W2, hW2⟩ : ∃ W2, (w.alloc (.cells #[.slice a1 m c1] 32)).alloc (.cells #[.slice a2 m c2] 32) = W2 := ⟨_, rfl⟩
  have BW := Lib.hid (show Below w.heap.size w W2 by rw [← hW2]; exact (by repeat (first | exact Below.refl _ _ | assumption | refine Below.drew ?_ | refine Below.alloc ?_ (by first | omega | (simp; omega) | (simp; done)) _ | refine Below.setCell ?_ (by first | omega | (simp; omega) | (simp; done)) _)))
  have p1 : W2.cell? ⟨w.heap.size, 0, none⟩ = some (.slice a1 m c1) := by rw [← hW2]; simp
  have p2 : W2.cell? ⟨w.heap.size + 1, 0, none⟩ = some (.slice a2 m c2) := by rw [← hW2]; simp [World.cell?_alloc_at]
  have pz : W2.heap.size = w.heap.size + 1 + 1 := by rw [← hW2]; simp
  go_enter Tryd.func25, Tryd.ntmps25
  go_wp2
  try rw [hW2]
  clear hW2
  go_loopw [5] (fun i wr => ∃ n : Nat, n ≤ m ∧ i = .int .i64 n ∧ Hid (xs.take n = ys.take n) ∧ Below W2.heap.size W2 wr) (fun i _ => m - (intOf i).toNat)
  case atStart => exact ⟨0, by omega, rfl, Lib.hid (by simp), Below.refl _ _⟩
  case round =>
    obtain ⟨n, hn, rfl, htk, hBW⟩ := hrel
    have hB : Below w.heap.size w wr := Below.trans BW.out (hBW.mono (by omega))
    have r1 : wr.cell? ⟨w.heap.size, 0, none⟩ = some (.slice a1 m c1) := (hBW.cell (p := ⟨w.heap.size, 0, none⟩) (by simp; omega)).trans p1
    have r2 : wr.cell? ⟨w.heap.size + 1, 0, none⟩ = some (.slice a2 m c2) := (hBW.cell (p := ⟨w.heap.size + 1, 0, none⟩) (by simp; omega)).trans p2
    have HBW := Lib.hid hBW
    clear hBW p1 p2
    by_cases hlt : n = m
    · subst hlt
      have hd := Lib.hid (show decide (xs = ys) = true from decide_eq_true (by have h := htk.out; rw [List.take_of_length_le (by rw [HX.out]; omega), List.take_of_length_le (by rw [HY.out]; omega)] at h; exact h))
      clear htk hn
      go_wp2
      go_ret
      exact ⟨by rw [hd.out]; rfl, (by repeat (first | exact Below.refl _ _ | assumption | refine Below.drew ?_ | refine Below.alloc ?_ (by first | omega | (simp; omega) | (simp; done)) _ | refine Below.setCell ?_ (by first | omega | (simp; omega) | (simp; done)) _))⟩
    · have hn' : n < m := by omega
      clear hn hlt
      obtain ⟨b1, o1, rfl, k1⟩ := Sl.at H1.out (by omega)
      obtain ⟨b2, o2, rfl, k2⟩ := Sl.at H2.out (by omega)
      obtain ⟨x, hx⟩ : ∃ x, xs[n]? = some x := ⟨_, List.getElem?_eq_getElem (by rw [HX.out]; exact hn')⟩
      obtain ⟨y, hy⟩ : ∃ y, ys[n]? = some y := ⟨_, List.getElem?_eq_getElem (by rw [HY.out]; exact hn')⟩
      obtain ⟨x1, x2⟩ := x
      obtain ⟨y1, y2⟩ := y
      have e1 : wr.cell? ⟨b1, o1 + n * 2, none⟩ = some (.int .u64 x1) := by rw [Nat.mul_comm]; exact k1 wr hB (2 * n) _ (cls_at _ _ _ hx).1
      have e2 : wr.cell? ⟨b2, o2 + n * 2, none⟩ = some (.int .u64 y1) := by rw [Nat.mul_comm]; exact k2 wr hB (2 * n) _ (cls_at _ _ _ hy).1
      have e3 : wr.cell? ⟨b1, o1 + n * 2 + 1, none⟩ = some (.int .i64 x2) := by rw [Nat.mul_comm]; exact k1 wr hB (2 * n + 1) _ (cls_at _ _ _ hx).2
      have e4 : wr.cell? ⟨b2, o2 + n * 2 + 1, none⟩ = some (.int .i64 y2) := by rw [Nat.mul_comm]; exact k2 wr hB (2 * n + 1) _ (cls_at _ _ _ hy).2
      have Hxy := Lib.hid (And.intro hx hy)
      have HB := Lib.hid hB
      clear k1 k2 hx hy hB H1 H2
      by_cases hxy : x1 = y1 ∧ x2 = y2
      · obtain ⟨rfl, rfl⟩ := hxy
        have T1 := Lib.hid (show xs.take (n + 1) = ys.take (n + 1) by rw [List.take_add_one, List.take_add_one, htk.out, Hxy.out.1, Hxy.out.2])
        go_wp2
        go_quiet (fail)
        go_wp2
        go_roundw
        case rel => exact ⟨n + 1, by omega, by go_num, T1, below_drewN HBW.out _⟩
        case measure => simp [intOf]; omega
      · have hd := Lib.hid (show decide (xs = ys) = false from decide_eq_false (fun h => by have h1 := Hxy.out; rw [h, h1.2] at h1; simp at h1; exact hxy ⟨h1.1.symm, h1.2.symm⟩))
        by_cases hx1 : x1 = y1
        · have hx2 : ¬ x2 = y2 := fun h => hxy ⟨hx1, h⟩
          subst hx1
          have q2 : (x2 == y2) = false := by simpa using hx2
          have q3 : (x2 != y2) = true := by simpa using hx2
          clear hxy hx2
          go_wp2
          go_quiet (fail)
          go_wp2
          go_ret
          exact ⟨by rw [hd.out]; rfl, below_drewN HB.out _⟩
        · have q1 : (x1 == y1) = false := by simpa using hx1
          have q3 : (x1 != y1) = true := by simpa using hx1
          clear hxy hx1
          go_wp2
          go_quiet (fail)
          go_wp2
          go_ret
          exact ⟨by rw [hd.out]; rfl, below_drewN HB.out _⟩

theorem same (va vb : Value) (xs ys : List (Int × Int)) (w : World) (ha : Sl w va xs.length (cls xs)) (hb : Sl w vb ys.length (cls ys)) (hl : xs.length ≤ 1000000000) :
    Calls Tryd.prog 25 #[.agg #[va], .agg #[vb]] w fun e w' => e = .returned (.bool (decide (xs = ys))) ∧ Below w.heap.size w w' := by
  by_cases h : xs.length = ys.length
  · exact same_eq va vb xs ys xs.length w rfl h.symm ha (h ▸ hb) hl
  · rw [show decide (xs = ys) = false from decide_eq_false (fun e => h (by rw [e]))]
    exact same_ne va vb _ _ _ _ w ha hb (by omega)

end Go.Proofs.YthigfjelgbdcfaaDoor

namespace Go.Proofs.YthigfjelgbdcfaaDoor
open Go.RowKit

theorem equal_ne (va vb : Value) (m n : Nat) (cs ds : List Value) (w : World) (ha : Sl w va m cs) (hb : Sl w vb n ds) (hne : (m : Int) ≠ n) :
    Calls Tryd.prog 45 #[va, vb] w fun e w' => e = .returned (.bool false) ∧ Below w.heap.size w w' := by
  obtain ⟨a1, c1, rfl, h1⟩ := ha
  obtain ⟨a2, c2, rfl, h2⟩ := hb
  clear h1 h2
  have hb : ((m : Int) != n) = true := by simpa using hne
  clear hne
  go_enter Tryd.func45, Tryd.ntmps45
  go_wp2
  go_ret
  exact ⟨rfl, (by repeat (first | exact Below.refl _ _ | assumption | refine Below.drew ?_ | refine Below.alloc ?_ (by first | omega | (simp; omega) | (simp; done)) _ | refine Below.setCell ?_ (by first | omega | (simp; omega) | (simp; done)) _))⟩

set_option maxHeartbeats 1000000 in
theorem equal_eq (va vb : Value) (xs ys : List Int) (m : Nat) (w : World) (hx : xs.length = m) (hy : ys.length = m) (ha : Sl w va m (u64s xs)) (hb : Sl w vb m (u64s ys)) (hl : m ≤ 1000000000) :
    Calls Tryd.prog 45 #[va, vb] w fun e w' => e = .returned (.bool (decide (xs = ys))) ∧ Below w.heap.size w w' := by
  obtain ⟨a1, c1, rfl, h1⟩ := ha
  obtain ⟨a2, c2, rfl, h2⟩ := hb
  have H1 := Lib.hid h1
  have H2 := Lib.hid h2
  have HX := Lib.hid hx
  have HY := Lib.hid hy
  clear h1 h2 hx hy
  go_enter Tryd.func45, Tryd.ntmps45
  go_wp2
  go_loopw [5, 13] (fun _ i wr => ∃ n : Nat, n ≤ m ∧ i = .int .i64 n ∧ Hid (xs.take n = ys.take n) ∧ Below w.heap.size w wr) (fun _ i _ => m - (intOf i).toNat)
  case atStart => exact ⟨0, by omega, rfl, Lib.hid (by simp), Below.refl _ _⟩
  case round =>
    obtain ⟨n, hn, rfl, htk, hB⟩ := hrel
    by_cases hlt : n = m
    · subst hlt
      have hd := Lib.hid (show decide (xs = ys) = true from decide_eq_true (by have h := htk.out; rw [List.take_of_length_le (by rw [HX.out]; omega), List.take_of_length_le (by rw [HY.out]; omega)] at h; exact h))
      clear htk hn
      go_wp2
      go_ret
      exact ⟨by rw [hd.out]; rfl, (by repeat (first | exact Below.refl _ _ | assumption | refine Below.drew ?_ | refine Below.alloc ?_ (by first | omega | (simp; omega) | (simp; done)) _ | refine Below.setCell ?_ (by first | omega | (simp; omega) | (simp; done)) _))⟩
    · have hn' : n < m := by omega
      clear hn hlt
      obtain ⟨b1, o1, rfl, k1⟩ := Sl.at H1.out (by omega)
      obtain ⟨b2, o2, rfl, k2⟩ := Sl.at H2.out (by omega)
      obtain ⟨x, hx⟩ : ∃ x, xs[n]? = some x := ⟨_, List.getElem?_eq_getElem (by rw [HX.out]; exact hn')⟩
      obtain ⟨y, hy⟩ : ∃ y, ys[n]? = some y := ⟨_, List.getElem?_eq_getElem (by rw [HY.out]; exact hn')⟩
      have e1 := k1 wr hB n _ (show _ = some (.int .u64 x) by simp [hx])
      have e2 := k2 wr hB n _ (show _ = some (.int .u64 y) by simp [hy])
      have Hxy := Lib.hid (And.intro hx hy)
      have HB := Lib.hid hB
      clear k1 k2 hx hy hB H1 H2
      by_cases hxy : x = y
      · have T1 := Lib.hid (show xs.take (n + 1) = ys.take (n + 1) by rw [List.take_add_one, List.take_add_one, htk.out, Hxy.out.1, Hxy.out.2, hxy])
        have hq : (x != y) = false := by simpa using hxy
        clear hxy
        go_wp2
        go_quiet (fail)
        go_wp2
        go_roundw
        case rel => exact ⟨n + 1, by omega, by go_num, T1, below_drewN HB.out _⟩
        case measure => simp [intOf]; omega
      · have hd := Lib.hid (show decide (xs = ys) = false from decide_eq_false (fun h => by have h1 := Hxy.out; rw [h, h1.2] at h1; simp at h1; exact hxy h1.symm))
        have hq : (x != y) = true := by simpa using hxy
        clear hxy
        go_wp2
        go_quiet (fail)
        go_wp2
        go_ret
        exact ⟨by rw [hd.out]; rfl, below_drewN HB.out _⟩

theorem equal (va vb : Value) (xs ys : List Int) (w : World) (ha : Sl w va xs.length (u64s xs)) (hb : Sl w vb ys.length (u64s ys)) (hl : xs.length ≤ 1000000000) :
    Calls Tryd.prog 45 #[va, vb] w fun e w' => e = .returned (.bool (decide (xs = ys))) ∧ Below w.heap.size w w' := by
  by_cases h : xs.length = ys.length
  · exact equal_eq va vb xs ys xs.length w rfl h.symm ha (h ▸ hb) hl
  · rw [show decide (xs = ys) = false from decide_eq_false (fun e => h (by rw [e]))]
    exact equal_ne va vb _ _ _ _ w ha hb (by omega)

end Go.Proofs.YthigfjelgbdcfaaDoor
