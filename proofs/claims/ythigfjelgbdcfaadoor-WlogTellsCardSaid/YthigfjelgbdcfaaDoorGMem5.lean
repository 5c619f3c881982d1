/- The contract of the reference's own copy of a memory, and plain words on packing. -/
import Derived.Test.YthigfjelgbdcfaaDoorGMem
import Derived.Maps.AppendAt
import Derived.OwnWalk

namespace Go.Proofs.YthigfjelgbdcfaaDoor
open Go.RowKit

theorem add_at (b o j : Nat) : (Addr.add ⟨b, o, none⟩ j) = ⟨b, o + j, none⟩ := by
  unfold Addr.add; split <;> simp_all

/-- what a row of one's own reads as -/
theorem sl_of_owns {w : World} {base : Nat} {e : TypeId} {size n : Nat} {v : Value} {xs : List Value} (h : w.ownsRow base e size v n xs) : Sl w v n xs := by
  rcases h.2 with ⟨rfl, rfl⟩ | ⟨g, cap, cur, rfl, hb, hg, hn, hc, hs, ht⟩
  · exact ⟨none, 0, rfl, fun h => by omega⟩
  · refine ⟨some ⟨g, 0, none⟩, cap, rfl, fun _ => ⟨g, 0, rfl, (Array.getElem?_eq_some_iff.1 hg).1, fun j u hj => ?_⟩⟩
    have := h.cells (g := g) rfl j u hj
    rw [add_at] at this
    exact this
theorem owns_slice {w : World} {base : Nat} {e : TypeId} {size n : Nat} {v : Value} {xs : List Value} (h : w.ownsRow base e size v n xs) : ∃ (a : Option Addr) (cap : Nat), v = .slice a n cap := by
  rcases h.2 with ⟨rfl, rfl⟩ | ⟨g, cap, cur, rfl, _⟩
  · exact ⟨_, _, rfl⟩
  · exact ⟨_, _, rfl⟩
theorem owns_set {w : World} {base b : Nat} {e t : TypeId} {size n : Nat} {v : Value} {xs : List Value} {c : Array Value} {f : Nat × Nat} (h : w.ownsRow base e size v n xs) (hb : w.heap[b]? = some (.cells c t f)) (hne : e ≠ t) (u : Value) (i : Nat) :
    (w.setCell ⟨b, i, none⟩ u).ownsRow base e size v n xs := by
  refine ⟨h.1, ?_⟩
  rcases h.2 with h0 | ⟨g, cap, cur, rfl, h1, h2, h3⟩
  · exact .inl h0
  · refine .inr ⟨g, cap, cur, rfl, h1, ?_, h3⟩
    rw [setCell_heap, if_neg]
    · exact h2
    · rintro rfl
      rw [hb] at h2
      cases h2
      exact hne rfl
theorem cell_info : (Tryd.prog.info? 68).map (fun i => (i.zero, i.size, i.bytes)) = some (some (.agg #[.int .u64 0, .int .i64 0]), 2, 16) := by kernel_rfl
theorem word_info : (Tryd.prog.info? 28).map (fun i => (i.zero, i.size, i.bytes)) = some (some (.int .u64 0), 1, 8) := by kernel_rfl
theorem write_info : (Tryd.prog.info? 71).map (fun i => (i.zero, i.size, i.bytes)) = some (some (.agg #[.int .i64 0, .int .u64 0]), 2, 16) := by kernel_rfl
theorem under_cells : Tryd.prog.underlying 30 = some (.slice 68) := by kernel_rfl
theorem under_words : Tryd.prog.underlying 27 = some (.slice 28) := by kernel_rfl
theorem under_writes : Tryd.prog.underlying 26 = some (.slice 71) := by kernel_rfl
theorem cls_one : ∀ (l : List (Int × Int)), ∀ u ∈ cls l, u.oneCell' = true
  | [], u, h => by simp [cls] at h
  | x :: r, u, h => by
    simp only [cls, List.mem_cons] at h
    rcases h with rfl | rfl | h
    · rfl
    · rfl
    · exact cls_one r u h
theorem wrs_one : ∀ (l : List (Int × Int)), ∀ u ∈ wrs l, u.oneCell' = true
  | [], u, h => by simp [wrs] at h
  | x :: r, u, h => by
    simp only [wrs, List.mem_cons] at h
    rcases h with rfl | rfl | h
    · rfl
    · rfl
    · exact wrs_one r u h
set_option maxRecDepth 100000 in
/-- 'Own': the same cells, in memory of its own -/
theorem fOwn (sv : Value) (ms : List (Int × Int)) (m : Nat) (w : World) (hm : ms.length = m) (h : Sl w sv m (cls ms)) (hl : m ≤ 1000000) :
    Calls Tryd.prog 46 #[.agg #[sv]] w fun e w' => ∃ v, e = .returned (.agg #[v]) ∧ w'.ownsRow w.heap.size 68 2 v m (cls ms) ∧ Below w.heap.size w w' := by
  obtain ⟨a, cap, rfl, h⟩ := h
  obtain ⟨i0, hi, hz0, hz1, hz2⟩ := info_parts cell_info
  have H := Lib.hid h
  have HM := Lib.hid hm
  clear h hm
  cases a with
  | none =>
    have h0 : m = 0 := by
      rcases Nat.eq_zero_or_pos m with h0 | h0
      · exact h0
      · obtain ⟨b, o, h, _⟩ := H.out h0; cases h
    subst h0
    have hms : ms = [] := List.eq_nil_of_length_eq_zero HM.out
    subst hms
    go_enter Tryd.func46, Tryd.ntmps46
    go_wp2
    exact ⟨rfl, .agg #[.slice none 0 0], by simp [results, Tryd.f46, go_sem, World.cell?_alloc_at], _, rfl, World.ownsRow_nil _ _ _ _, (by repeat (first | exact Below.refl _ _ | assumption | refine Below.drew ?_ | refine Below.alloc ?_ (by first | omega | (simp; omega) | (simp; done)) _ | refine Below.setCell ?_ (by first | omega | (simp; omega) | (simp; done)) _))⟩
  | some ad =>
    go_enter Tryd.func46, Tryd.ntmps46
    go_wp2_with (first | (at_builtin; refine wpList_append_own _ rfl _ _ 30 rfl w.heap.size 68 i0 _ 2 16 under_cells hi hz0 hz1 hz2 rfl (by decide) _ _ _ rfl (World.ownsRow_nil _ _ _ _) ad m cap (cls ms) rfl (by rw [cls_len, HM.out]; omega) ?c1 (cls_one ms) (by unfold maxLen; omega) (by omega) (by simp; omega) ?_; rotate_left; intro v1 w1 hown1 hgrow1 _; simp only [Nat.zero_add, List.nil_append] at hown1; obtain ⟨a1, cp1, rfl⟩ := owns_slice hown1; have hg1 : World.grownBy _ w1 none := hgrow1; clear hgrow1; have hb1 := (hg1.block (w.heap.size + 1) (by simp) (by simp)).trans (alloc_at _ _ (by simp)); have y1 := blk_cell hb1 (i := 0) (v := .slice none 0 0) rfl; have f1 := blk_frozen hb1 (i := 0); have HG := Lib.hid hg1; clear hg1))
    case c1 =>
      intro j u hj
      have h0 : 0 < m := by
        have := (List.getElem?_eq_some_iff.1 hj).1
        rw [cls_len, HM.out] at this
        omega
      obtain ⟨b, o, he, hb, hc⟩ := H.out h0
      cases he
      rw [add_at]
      exact (((by repeat (first | exact Below.refl _ _ | assumption | refine Below.drew ?_ | refine Below.alloc ?_ (by first | omega | (simp; omega) | (simp; done)) _ | refine Below.setCell ?_ (by first | omega | (simp; omega) | (simp; done)) _)) : Below w.heap.size w ((w.alloc _).alloc _)).cell (p := ⟨b, o + j, none⟩) hb).trans (hc j u hj)
    have hB1 : Below w.heap.size w w1 := ((by repeat (first | exact Below.refl _ _ | assumption | refine Below.drew ?_ | refine Below.alloc ?_ (by first | omega | (simp; omega) | (simp; done)) _ | refine Below.setCell ?_ (by first | omega | (simp; omega) | (simp; done)) _)) : Below w.heap.size w ((w.alloc _).alloc _)).grown HG.out (by simp; omega) (by simp)
    have y2 := blk_cell (blk_set hb1 (.slice a1 m cp1) (i := 0)) (i := 0) (v := .slice a1 m cp1) rfl
    exact ⟨rfl, .agg #[.slice a1 m cp1], by simp [results, Tryd.f46, go_sem, y2], _, rfl, owns_set hown1 hb1 (by decide) _ _, hB1.setCell (p := ⟨w.heap.size + 1, 0, none⟩) (by simp) _⟩

set_option maxRecDepth 100000 in
/-- 'slices.Clone': the same cells, in memory of its own -/
theorem clone (sv : Value) (ms : List (Int × Int)) (m : Nat) (w : World) (hm : ms.length = m) (h : Sl w sv m (cls ms)) (hl : m ≤ 1000000) :
    Calls Tryd.prog 47 #[sv] w fun e w' => ∃ v, e = .returned v ∧ w'.ownsRow w.heap.size 68 2 v m (cls ms) ∧ Below w.heap.size w w' := by
  obtain ⟨a, cap, rfl, h⟩ := h
  obtain ⟨i0, hi, hz0, hz1, hz2⟩ := info_parts cell_info
  have H := Lib.hid h
  have HM := Lib.hid hm
  clear h hm
  cases a with
  | none =>
    have h0 : m = 0 := by
      rcases Nat.eq_zero_or_pos m with h0 | h0
      · exact h0
      · obtain ⟨b, o, h, _⟩ := H.out h0; cases h
    subst h0
    have hms : ms = [] := List.eq_nil_of_length_eq_zero HM.out
    subst hms
    have hE : ∀ w : World, (binOp BinOp.eql 30 (.slice none 0 cap) (.slice none 0 0)).run Tryd.prog w = .ok (.bool true) w := fun w => by kernel_rfl
    go_enter Tryd.func47, Tryd.ntmps47
    go_wp2
    go_ret
    exact ⟨_, rfl, World.ownsRow_nil _ _ _ _, (by repeat (first | exact Below.refl _ _ | assumption | refine Below.drew ?_ | refine Below.alloc ?_ (by first | omega | (simp; omega) | (simp; done)) _ | refine Below.setCell ?_ (by first | omega | (simp; omega) | (simp; done)) _))⟩
  | some ad =>
    have hE : ∀ w : World, (binOp BinOp.eql 30 (.slice (some ad) m cap) (.slice none 0 0)).run Tryd.prog w = .ok (.bool false) w := fun w => by kernel_rfl
    go_enter Tryd.func47, Tryd.ntmps47
    go_wp2_with (first | (at_builtin; refine wpList_append_own _ rfl _ _ 30 rfl w.heap.size 68 i0 _ 2 16 under_cells hi hz0 hz1 hz2 rfl (by decide) _ _ _ rfl (World.ownsRow_made w #[] 0 (Nat.le_refl _) (by decide) rfl) ad m cap (cls ms) rfl (by rw [cls_len, HM.out]; omega) ?c1 (cls_one ms) (by unfold maxLen; omega) (by omega) (by simp) ?_; rotate_left; intro v1 w1 hown1 hgrow1 _; simp only [Nat.zero_add, List.nil_append] at hown1))
    case c1 =>
      intro j u hj
      have h0 : 0 < m := by
        have := (List.getElem?_eq_some_iff.1 hj).1
        rw [cls_len, HM.out] at this
        omega
      obtain ⟨b, o, he, hb, hc⟩ := H.out h0
      cases he
      rw [add_at]
      exact ((blk_alloc w _ : Below w.heap.size w (w.alloc _)).cell (p := ⟨b, o + j, none⟩) hb).trans (hc j u hj)
    go_ret
    exact ⟨_, rfl, hown1, (blk_alloc w _ : Below w.heap.size w (w.alloc _)).grown hgrow1 (by simp) (by intro k hk; have e : some w.heap.size = some k := hk; injection e with e; omega)⟩

end Go.Proofs.YthigfjelgbdcfaaDoor

/-! Layer 16, plain: the words of writes. -/
namespace Go.Proofs.YthigfjelgbdcfaaDoor
open Go.RowKit

def wu (x : Int) : Int := IntKind.u64.wrap x
theorem wu_bd (x : Int) : 0 ≤ wu x ∧ wu x ≤ 18446744073709551615 := by unfold wu; rw [IntKind.wrap_u64]; omega
def pk : List (Int × Int) → List Int
  | [] => []
  | x :: r => wu x.1 :: x.2 :: pk r
theorem pk_append : ∀ a b : List (Int × Int), pk (a ++ b) = pk a ++ pk b
  | [], b => rfl
  | x :: r, b => by simp [pk, pk_append r b]
theorem pk_len : ∀ a : List (Int × Int), (pk a).length = 2 * a.length
  | [] => rfl
  | x :: r => by simp [pk, pk_len r]; omega
theorem pk_take {l : List (Int × Int)} {n : Nat} {x : Int × Int} (h : l[n]? = some x) : pk (l.take (n + 1)) = pk (l.take n) ++ [wu x.1, x.2] := by
  rw [List.take_add_one, h, pk_append]
  rfl

/-- a log's words -/
def packW (L : Nat) (l : List (Int × Int)) : List Int := (l.length : Int) :: pk l ++ List.replicate (L - (1 + 2 * l.length)) 0
theorem packW_len {L : Nat} {l : List (Int × Int)} (h : 1 + 2 * l.length ≤ L) : (packW L l).length = L := by
  simp [packW, pk_len]; omega

/-- the first n writes are right -/
def PkOk (k p c : Int) (l : List (Int × Int)) (n : Nat) : Prop :=
  ∀ i x, i < n → l[i]? = some x → placeB k p c (wu x.1) = true ∧ ∀ j y, j < i → l[j]? = some y → y.1 ≠ x.1
theorem PkOk.zero (k p c : Int) (l : List (Int × Int)) : PkOk k p c l 0 := fun i x h => by omega
theorem PkOk.succ {k p c : Int} {l : List (Int × Int)} {n : Nat} {x : Int × Int} (h : PkOk k p c l n) (hx : l[n]? = some x) (h1 : placeB k p c (wu x.1) = true) (h2 : ∀ j y, j < n → l[j]? = some y → y.1 ≠ x.1) : PkOk k p c l (n + 1) := by
  intro i z hi hz
  rcases Nat.lt_or_ge i n with hlt | hge
  · exact h i z hlt hz
  · have : i = n := by omega
    subst this
    rw [hx] at hz
    cases hz
    exact ⟨h1, h2⟩
theorem PkOk.mono {k p c : Int} {l : List (Int × Int)} {m n : Nat} (h : PkOk k p c l m) (hn : n ≤ m) : PkOk k p c l n := fun i x hi hx => h i x (by omega) hx
theorem PkOk.place {k p c : Int} {l : List (Int × Int)} {m n : Nat} {x : Int × Int} (h : PkOk k p c l m) (hn : n < m) (hx : l[n]? = some x) : placeB k p c (wu x.1) = true := (h n x hn hx).1
theorem PkOk.twice {k p c : Int} {l : List (Int × Int)} {m n j : Nat} {x y : Int × Int} (h : PkOk k p c l m) (hn : n < m) (hx : l[n]? = some x) (hj : j < n) (hy : l[j]? = some y) : y.1 ≠ x.1 := (h n x hn hx).2 j y hj hy

theorem owns_below {w w' : World} {base : Nat} {e : TypeId} {size n : Nat} {v : Value} {xs : List Value} (h : w.ownsRow base e size v n xs) (hb : Below w.heap.size w w') : w'.ownsRow base e size v n xs := by
  refine ⟨h.1, ?_⟩
  rcases h.2 with h0 | ⟨g, cap, cur, rfl, h1, h2, h3⟩
  · exact .inl h0
  · exact .inr ⟨g, cap, cur, rfl, h1, (hb.block g (Array.getElem?_eq_some_iff.1 h2).1).trans h2, h3⟩

theorem owns_base {w : World} {base base' : Nat} {e : TypeId} {size n : Nat} {v : Value} {xs : List Value} (h : w.ownsRow base e size v n xs) (hb : base' ≤ base) : w.ownsRow base' e size v n xs := by
  refine ⟨h.1, ?_⟩
  rcases h.2 with h0 | ⟨g, cap, cur, rfl, h1, h2, h3⟩
  · exact .inl h0
  · exact .inr ⟨g, cap, cur, rfl, Nat.le_trans hb h1, h2, h3⟩

/-- a frame's cell of its own: the configuration -/
def One (w W : World) (k p c : Int) : Prop := Below w.heap.size w W ∧ W.heap[w.heap.size]? = some (.cells #[.int .i64 k, .int .i64 p, .int .i64 c] 24)
theorem one_start (w : World) (k p c : Int) : One w (w.alloc (.cells #[.int .i64 k, .int .i64 p, .int .i64 c] 24)) k p c := ⟨blk_alloc w _, World.alloc_heap_new w _⟩
theorem one_call {w W W' : World} {k p c : Int} (h : One w W k p c) (hb : Below W.heap.size W W') : One w W' k p c := by
  have l0 := (Array.getElem?_eq_some_iff.1 h.2).1
  exact ⟨h.1.trans (hb.mono h.1.size), (hb.block _ l0).trans h.2⟩
theorem one_cells {w W : World} {k p c : Int} (h : One w W k p c) : W.cell? ⟨w.heap.size, 0, none⟩ = some (.int .i64 k) ∧ W.cell? ⟨w.heap.size, 1, none⟩ = some (.int .i64 p) ∧ W.cell? ⟨w.heap.size, 2, none⟩ = some (.int .i64 c) ∧ w.heap.size < W.heap.size :=
  ⟨blk_cell h.2 rfl, blk_cell h.2 rfl, blk_cell h.2 rfl, (Array.getElem?_eq_some_iff.1 h.2).1⟩
theorem one_grown {w W W' : World} {k p c : Int} {row : Option Nat} (h : One w W k p c) (hg : W.grownBy W' row) (hr : ∀ r, row = some r → w.heap.size < r) : One w W' k p c := by
  have l0 := (Array.getElem?_eq_some_iff.1 h.2).1
  refine ⟨h.1.grown hg h.1.size (fun r e => by have := hr r e; omega), (hg.block _ l0 ?_).trans h.2⟩
  intro e
  have := hr _ e.symm
  omega

end Go.Proofs.YthigfjelgbdcfaaDoor
