/- The contract of the region package's list of parts, for every configuration that fits. -/
import Derived.Test.YthigfjelgbdcfaaDoorGRegA
import Derived.Test.YthigfjelgbdcfaaDoorGPlain
import Derived.RangeFuncNested
import Derived.RangeFuncBound
import Derived.RangeFuncCalls
import Derived.RangeFuncLeaves
import Derived.OwnWalkIn
import Derived.TacticsInMore
import Derived.LoopNIn
import Derived.LoopIn
import Derived.Deep.RegionHeld3

namespace Go.Proofs.YthigfjelgbdcfaaDoor
open Go.RowKit

attribute [local go_sem] Oper.semAt_some

/-- All cells lie as they lay, but for the blocks of S. -/
def KeepW (S : Nat → Prop) (W W' : World) : Prop := W.heap.size ≤ W'.heap.size ∧ ∀ k c t f, W.heap[k]? = some (.cells c t f) → ¬ S k → W'.heap[k]? = W.heap[k]?
theorem KeepW.trans {S : Nat → Prop} {A B C : World} (h : KeepW S A B) (h' : KeepW S B C) : KeepW S A C :=
  ⟨Nat.le_trans h.1 h'.1, fun k c t f hk hs => by rw [h'.2 k c t f ((h.2 k c t f hk hs).trans hk) hs, h.2 k c t f hk hs]⟩
theorem KeepW.put {S : Nat → Prop} (W : World) (l : Nat) (o o' : Obj) (h : W.heap[l]? = some o) (hc : o.isCells = false) : KeepW S W (W.putObj l o') := by
  refine ⟨by simp [World.putObj], fun k c t f hk _ => World.putObj_heap_other ?_⟩
  rintro rfl
  rw [h] at hk
  cases hk
  simp [Obj.isCells] at hc
theorem KeepW.of_below {S : Nat → Prop} {W W' : World} (h : Below W.heap.size W W') : KeepW S W W' :=
  ⟨h.size, fun k _ _ _ hk _ => h.block k (Array.getElem?_eq_some_iff.1 hk).1⟩
theorem KeepW.refl (S : Nat → Prop) (W : World) : KeepW S W W := ⟨Nat.le_refl _, fun _ _ _ _ _ _ => rfl⟩
theorem KeepW.set {S : Nat → Prop} {W : World} {a : Addr} (h : S a.block) (v : Value) : KeepW S W (W.setCell a v) :=
  ⟨by simp, fun k c t f hk hs => by rw [setCell_heap, if_neg]; rintro rfl; exact hs h⟩

/-- a block of cells of one's own, read -/
theorem blk_cell {W : World} {b i : Nat} {c : Array Value} {t : TypeId} {f : Nat × Nat} {v : Value} (h : W.heap[b]? = some (.cells c t f)) (hv : c[i]? = some v) : W.cell? ⟨b, i, none⟩ = some v := by
  simp [World.cell?, h, hv]

abbrev partEnc (x : Part) : Array Value := #[.agg #[.int .i64 x.1, .int .i64 x.2.1, .int .i64 x.2.2.1, .int .i64 x.2.2.2]]

/-- the slice of sizes, as the iterator lays it -/
def sizesBlk (k p c : Int) : Array Value := #[.int .i64 1, .int .i64 3, .int .i64 2, .int .i64 (1 + 2 * (homeF k c + 2 * p)), .int .i64 (homeF k c)]
theorem sizesBlk_at (k p c : Int) (j : Nat) (h : j < 5) : (sizesBlk k p c)[j]? = some (.int .i64 (partSize k p c j)) := by
  rcases (show j = 0 ∨ j = 1 ∨ j = 2 ∨ j = 3 ∨ j = 4 by omega) with rfl | rfl | rfl | rfl | rfl <;> simp [sizesBlk, partSize]

/-- the region that lays the sizes -/
def SizesPost (W : World) (B : Nat) (l : Nat) (e : Exit) (a : Act) (w' : World) (k p c : Int) : Prop :=
  ∃ b s8 s9 s10 s11 : Value, ∃ bs : Nat, e = .normal ∧ W.heap.size ≤ bs ∧ b = .slice (some ⟨bs, 0, none⟩) 5 5 ∧ w'.heap[bs]? = some (.cells (sizesBlk k p c) 3 (0, 0)) ∧ Below W.heap.size W w' ∧
    a = { tmps := #[.func (.yield l) #[] #[], .pointer (some ⟨B, 0, none⟩), undef, .int .i64 0, undef, undef, undef, undef, s8, s9, s10, s11, b, .int .i64 5, .int .i64 0, undef, undef, undef, undef, undef, undef, undef, undef, undef, undef, undef, undef, undef, undef, undef, undef, undef, undef, undef, undef, undef, undef, undef, undef, undef, undef, undef, undef, undef, undef, undef], defers := [] }

set_option maxRecDepth 100000 in
set_option maxHeartbeats 2000000 in
theorem parts_stops (S : Nat → Prop) (k p c : Int) (hf : Fit k p c) (B : Nat) (w : World) (ho : Objs w) (hB : w.heap[B]? = some (.cells #[.int .i64 k, .int .i64 p, .int .i64 c] 24 (0, 0))) (hSB : ¬ S B) (hS : ∀ i, S i → i < w.heap.size) (n : Nat) (hn : 1 ≤ n) :
    SeqStopsK Fence.wide n Tryd.prog 71 #[.pointer (some ⟨B, 0, none⟩)] partEnc (KeepW S) (fun xs => xs = partsL k p c) (fun pre => pre <+: partsL k p c) (partsL k p c).length w := by
  intro l J Jx W hW hJ hJx hY h0
  have hBW : W.heap[B]? = some (.cells #[.int .i64 k, .int .i64 p, .int .i64 c] 24 (0, 0)) := (hW.block B (Array.getElem?_eq_some_iff.1 hB).1).trans hB
  have hBlt : B < W.heap.size := (Array.getElem?_eq_some_iff.1 hBW).1
  have hSW : ∀ i, S i → i < W.heap.size := fun i hi => Nat.lt_of_lt_of_le (hS i hi) hW.size
  have hoW : Objs W := ho.below hW
  clear hB hS ho hW
  refine callsIn_of_wp Tryd.func71 rfl trivial ?_ rfl
  simp only [Tryd.ntmps71, List.size_toArray, List.length_cons, List.length_nil, Nat.reduceAdd, Nat.reduceSub, Array.replicate_succ, Array.replicate_zero, List.push_toArray, List.append_toArray, List.nil_append, List.cons_append]
  gi_wp2
  have hc0 := blk_cell hBW (i := 0) (v := .int .i64 k) rfl
  have hc1 := blk_cell hBW (i := 1) (v := .int .i64 p) rfl
  have hc2 := blk_cell hBW (i := 2) (v := .int .i64 c) rfl
  have HF := Lib.hid hf
  have HL := Lib.hid (logN_yes hf)
  have HN := Lib.hid (homeN_yes hf)
  have HO := Lib.hid hoW
  clear hoW hf
  refine wpIn_wide.2 ?_
  refine Code.wp_mono (Q := fun e a w' => SizesPost W B l e a w' k p c) ?next (wp_region_noPanic ?_)
  rotate_left
  · clear hY h0 hJ hJx hSW
    have CL : Hid (∀ w1, Below W.heap.size W w1 → Calls Tryd.prog 43 #[conf k p c] w1 fun e w' => e = .returned (.int .i64 (1 + 2 * (homeF k c + 2 * p))) ∧ Below w1.heap.size w1 w') := Lib.hid (fun w1 h => HL.out ▸ rLogSize _ _ _ w1 (HO.out.below h))
    have CH : Hid (∀ w1, Below W.heap.size W w1 → Calls Tryd.prog 72 #[conf k p c] w1 fun e w' => e = .returned (.int .i64 (homeF k c)) ∧ Below w1.heap.size w1 w') := Lib.hid (fun w1 h => HN.out ▸ rHome _ _ _ w1 (HO.out.below h))
    go_region_with (first | (go_at_call 43; refine (CL.out _ ?_).mono ?_; exact (Below.refl _ _).drew; rintro e wc ⟨rfl, hbc⟩; obtain ⟨hc0, hc1, hc2, hBlt⟩ := cells3n (W := W.drew) (m := B) ⟨hc0, hc1, hc2, hBlt⟩ hbc; have hBc : Below W.heap.size W wc := Below.trans (Below.refl W.heap.size W).drew (hbc.mono (Nat.le_refl _)); have hzc : W.heap.size ≤ wc.heap.size := hbc.size; clear hbc) | (go_at_call 72; refine (CH.out _ ?_).mono ?_; assumption; rintro e wd ⟨rfl, hbd⟩; have hBd : Below W.heap.size W wd := Below.trans (by assumption) (hbd.mono (by assumption)); have hzd := hbd.size; clear hbd))
    all_goals exact ⟨_, _, _, _, _, wd.heap.size, rfl, by omega, rfl, World.alloc_heap_new wd _, (by repeat (first | exact Below.refl _ _ | assumption | refine Below.drew ?_ | refine Below.alloc ?_ (by first | omega | (simp; omega) | (simp; done)) _ | refine Below.setCell ?_ (by first | omega | (simp; omega) | (simp; done)) _)), rfl⟩
  · rintro e a w1 ⟨b, s8, s9, s10, s11, bs, rfl, hbs, rfl, hblk, hBw, rfl⟩
    have hgr : W.grownBy w1 none := ⟨hBw.os, hBw.tape, hBw.output, hBw.size, fun k hk _ => hBw.block k hk⟩
    have h1 : J [] w1 := hJ [] W w1 none h0 hgr (by simp)
    have hB1 : w1.heap[B]? = some (.cells #[.int .i64 k, .int .i64 p, .int .i64 c] 24 (0, 0)) := (hBw.block B hBlt).trans hBW
    have hSb : ¬ S bs := fun h => by have := hSW bs h; omega
    clear hgr h0 hBW hc0 hc1 hc2 hBw hbs hSW hJ hJx HL HN HO
    simp only [Exit.then]
    gi_wp2
    gi_loopw [3, 4, 5, 6, 7, 14] (fun fr kd sz mn ow ix wr => ∃ j : Nat, j ≤ 5 ∧ ix = .int .i64 j ∧ fr = .int .i64 (preN k p c j) ∧ J (partsTo k p c j) wr ∧ wr.heap[B]? = some (.cells #[.int .i64 k, .int .i64 p, .int .i64 c] 24 (0, 0)) ∧ wr.heap[bs]? = some (.cells (sizesBlk k p c) 3 (0, 0))) (fun fr kd sz mn ow ix wr => (5 - intOf ix).toNat)
    case atStart => exact ⟨0, by omega, rfl, by simp [preN], h1, hB1, hblk⟩
    case round =>
      obtain ⟨j, hj, rfl, rfl, hJj, hBr, hbr⟩ := hrel
      clear hB1 hblk h1
      have hc1 := blk_cell hBr (i := 1) (v := .int .i64 p) rfl
      have hf := HF.out
      unfold Fit at hf
      by_cases hj5 : j = 5
      · subst hj5
        clear hc1
        gi_wp2
        go_end0
        exact ⟨⟨_, rfl⟩, .inl ⟨_, rfl, hJj⟩⟩
      have hj4 : j < 5 := by omega
      clear hj hj5
      have hsz := blk_cell hbr (sizesBlk_at k p c j hj4)
      have hbd := part_bd HF.out (i := j) (by omega) (by omega)
      have hpr := pre_bd HF.out (i := j)
      have hown : (j = 0 ∧ partOwn p j = 1) ∨ (j ≠ 0 ∧ j = 4 ∧ partOwn p j = 1) ∨ (j ≠ 0 ∧ j ≠ 4 ∧ partOwn p j = p) := by
        unfold partOwn
        by_cases h0 : j = 0
        · exact .inl ⟨h0, if_pos (by omega)⟩
        · by_cases h4 : j = 4
          · exact .inr (.inl ⟨h0, h4, if_pos (by omega)⟩)
          · exact .inr (.inr ⟨h0, h4, if_neg (by omega)⟩)
      rcases hown with ⟨h0, hM⟩ | ⟨h0, h4, hM⟩ | ⟨h0, h4, hM⟩
      · have HM := Lib.hid hM
        clear hM
        have hj5b : decide (((j : Nat) : Int) < 5) = true := decide_eq_true (by omega)
        have e0 : (((j : Nat) : Int) == 0) = true := by rw [beq_iff_eq]; omega
        clear h0
        gi_wp2
        gi_loopw [3, 7, 28] (fun fr ow ix wr => ∃ (o : Nat) (F : Int), (o : Int) ≤ 1 ∧ ix = .int .i64 o ∧ fr = .int .i64 F ∧ Hid (F = preN k p c j + o * partSize k p c j) ∧ J (partsTo k p c j ++ partsJ k p c j o) wr ∧ wr.heap[B]? = some (.cells #[.int .i64 k, .int .i64 p, .int .i64 c] 24 (0, 0)) ∧ wr.heap[bs]? = some (.cells (sizesBlk k p c) 3 (0, 0))) (fun fr ow ix wr => (1 - intOf ix).toNat)
        case atStart => exact ⟨0, preN k p c j, by omega, rfl, rfl, Lib.hid (by simp), by simpa [partsJ] using hJj, hBr, hbr⟩
        case round =>
          obtain ⟨o, F, hoM, rfl, rfl, HFe, hJo, hBo, hbo⟩ := hrel
          have hFb : 0 ≤ F ∧ F ≤ 80000 := by
            have := HFe.out
            have hm := mul_bd (a := (o : Int)) (b := partSize k p c j) (A := 16) (B := 2117) (by omega) (by omega) (by omega) (by omega)
            omega
          by_cases hlt : (o : Int) < 1
          · obtain ⟨fn, tmps, assign, body, hy, hR⟩ := hY (partsTo k p c j ++ partsJ k p c j o) (partK k p c j o) _ hJo (parts_len k p c (by omega) (by have := HM.out; unfold ownNat; omega))
            simp only [partEnc, partK, ← HFe.out] at hy
            have hoB : (o : Int) ≤ 16 := by omega
            gi_wp2
            refine hR.mono ?_
            rintro e W3 (⟨rfl, hJ3, hk3⟩ | ⟨rfl, hJx3⟩)
            · have hB3 := (hk3.2 _ _ _ _ hBo hSB).trans hBo
              have hb3 := (hk3.2 _ _ _ _ hbo hSb).trans hbo
              gi_wp2
              go_roundw
              case rel =>
                have hrel2 : J (partsTo k p c j ++ partsJ k p c j (o + 1)) W3 := by rw [partsJ_succ, ← List.append_assoc]; exact hJ3
                have hF2 : Hid (F + partSize k p c j = preN k p c j + ((o + 1 : Nat) : Int) * partSize k p c j) := Lib.hid (by rw [HFe.out]; push_cast; rw [Int.add_mul]; omega)
                first | exact ⟨o + 1, F + partSize k p c j, by omega, by go_num, rfl, hF2, hrel2, hB3, hb3⟩ | ((repeat apply Exists.intro); exact ⟨⟨o + 1, F + partSize k p c j, by omega, by go_num, rfl, hF2, hrel2, hB3, hb3⟩, rfl⟩)
              case measure => simp [intOf]; omega
            · gi_wp2
              refine bodyPost_ret (results_none rfl _ _ _) rfl ?_
              exact ⟨⟨_, rfl⟩, .inr ⟨_, by have h := parts_prefix k p c (j := j) (m := o + 1) (by omega) (by have := HM.out; unfold ownNat; omega); rw [partsJ_succ, ← List.append_assoc] at h; exact h, hJx3⟩⟩
          · have hoe : (o : Int) = 1 := by omega
            gi_wp2
            go_roundw
            case rel =>
              refine ⟨j + 1, by omega, by go_num, ?_, ?_, hBo, hbo⟩
              · have h2 : F = preN k p c ((j : Int) + 1) := by rw [pre_step (by omega) (by omega), HM.out, HFe.out, hoe, Int.mul_comm]
                rw [h2]
                rfl
              · have ho : o = ownNat p j := by have := HM.out; unfold ownNat; omega
                show J (partsTo k p c j ++ partsJ k p c j (ownNat p j)) _
                rw [← ho]
                exact hJo
            case measure => simp [intOf]; omega
      · have HM := Lib.hid hM
        clear hM
        have hj5b : decide (((j : Nat) : Int) < 5) = true := decide_eq_true (by omega)
        have e0 : (((j : Nat) : Int) == 0) = false := by rw [beq_eq_false_iff_ne]; omega
        have e4 : (((j : Nat) : Int) == 4) = true := by rw [beq_iff_eq]; omega
        clear h0 h4
        gi_wp2
        gi_loopw [3, 7, 28] (fun fr ow ix wr => ∃ (o : Nat) (F : Int), (o : Int) ≤ 1 ∧ ix = .int .i64 o ∧ fr = .int .i64 F ∧ Hid (F = preN k p c j + o * partSize k p c j) ∧ J (partsTo k p c j ++ partsJ k p c j o) wr ∧ wr.heap[B]? = some (.cells #[.int .i64 k, .int .i64 p, .int .i64 c] 24 (0, 0)) ∧ wr.heap[bs]? = some (.cells (sizesBlk k p c) 3 (0, 0))) (fun fr ow ix wr => (1 - intOf ix).toNat)
        case atStart => exact ⟨0, preN k p c j, by omega, rfl, rfl, Lib.hid (by simp), by simpa [partsJ] using hJj, hBr, hbr⟩
        case round =>
          obtain ⟨o, F, hoM, rfl, rfl, HFe, hJo, hBo, hbo⟩ := hrel
          have hFb : 0 ≤ F ∧ F ≤ 80000 := by
            have := HFe.out
            have hm := mul_bd (a := (o : Int)) (b := partSize k p c j) (A := 16) (B := 2117) (by omega) (by omega) (by omega) (by omega)
            omega
          by_cases hlt : (o : Int) < 1
          · obtain ⟨fn, tmps, assign, body, hy, hR⟩ := hY (partsTo k p c j ++ partsJ k p c j o) (partK k p c j o) _ hJo (parts_len k p c (by omega) (by have := HM.out; unfold ownNat; omega))
            simp only [partEnc, partK, ← HFe.out] at hy
            have hoB : (o : Int) ≤ 16 := by omega
            gi_wp2
            refine hR.mono ?_
            rintro e W3 (⟨rfl, hJ3, hk3⟩ | ⟨rfl, hJx3⟩)
            · have hB3 := (hk3.2 _ _ _ _ hBo hSB).trans hBo
              have hb3 := (hk3.2 _ _ _ _ hbo hSb).trans hbo
              gi_wp2
              go_roundw
              case rel =>
                have hrel2 : J (partsTo k p c j ++ partsJ k p c j (o + 1)) W3 := by rw [partsJ_succ, ← List.append_assoc]; exact hJ3
                have hF2 : Hid (F + partSize k p c j = preN k p c j + ((o + 1 : Nat) : Int) * partSize k p c j) := Lib.hid (by rw [HFe.out]; push_cast; rw [Int.add_mul]; omega)
                first | exact ⟨o + 1, F + partSize k p c j, by omega, by go_num, rfl, hF2, hrel2, hB3, hb3⟩ | ((repeat apply Exists.intro); exact ⟨⟨o + 1, F + partSize k p c j, by omega, by go_num, rfl, hF2, hrel2, hB3, hb3⟩, rfl⟩)
              case measure => simp [intOf]; omega
            · gi_wp2
              refine bodyPost_ret (results_none rfl _ _ _) rfl ?_
              exact ⟨⟨_, rfl⟩, .inr ⟨_, by have h := parts_prefix k p c (j := j) (m := o + 1) (by omega) (by have := HM.out; unfold ownNat; omega); rw [partsJ_succ, ← List.append_assoc] at h; exact h, hJx3⟩⟩
          · have hoe : (o : Int) = 1 := by omega
            gi_wp2
            go_roundw
            case rel =>
              refine ⟨j + 1, by omega, by go_num, ?_, ?_, hBo, hbo⟩
              · have h2 : F = preN k p c ((j : Int) + 1) := by rw [pre_step (by omega) (by omega), HM.out, HFe.out, hoe, Int.mul_comm]
                rw [h2]
                rfl
              · have ho : o = ownNat p j := by have := HM.out; unfold ownNat; omega
                show J (partsTo k p c j ++ partsJ k p c j (ownNat p j)) _
                rw [← ho]
                exact hJo
            case measure => simp [intOf]; omega
      · have HM := Lib.hid hM
        clear hM
        have hj5b : decide (((j : Nat) : Int) < 5) = true := decide_eq_true (by omega)
        have e0 : (((j : Nat) : Int) == 0) = false := by rw [beq_eq_false_iff_ne]; omega
        have e4 : (((j : Nat) : Int) == 4) = false := by rw [beq_eq_false_iff_ne]; omega
        clear h0 h4
        gi_wp2
        gi_loopw [3, 7, 28] (fun fr ow ix wr => ∃ (o : Nat) (F : Int), (o : Int) ≤ p ∧ ix = .int .i64 o ∧ fr = .int .i64 F ∧ Hid (F = preN k p c j + o * partSize k p c j) ∧ J (partsTo k p c j ++ partsJ k p c j o) wr ∧ wr.heap[B]? = some (.cells #[.int .i64 k, .int .i64 p, .int .i64 c] 24 (0, 0)) ∧ wr.heap[bs]? = some (.cells (sizesBlk k p c) 3 (0, 0))) (fun fr ow ix wr => (p - intOf ix).toNat)
        case atStart => exact ⟨0, preN k p c j, by omega, rfl, rfl, Lib.hid (by simp), by simpa [partsJ] using hJj, hBr, hbr⟩
        case round =>
          obtain ⟨o, F, hoM, rfl, rfl, HFe, hJo, hBo, hbo⟩ := hrel
          have hFb : 0 ≤ F ∧ F ≤ 80000 := by
            have := HFe.out
            have hm := mul_bd (a := (o : Int)) (b := partSize k p c j) (A := 16) (B := 2117) (by omega) (by omega) (by omega) (by omega)
            omega
          by_cases hlt : (o : Int) < p
          · obtain ⟨fn, tmps, assign, body, hy, hR⟩ := hY (partsTo k p c j ++ partsJ k p c j o) (partK k p c j o) _ hJo (parts_len k p c (by omega) (by have := HM.out; unfold ownNat; omega))
            simp only [partEnc, partK, ← HFe.out] at hy
            have hoB : (o : Int) ≤ 16 := by omega
            gi_wp2
            refine hR.mono ?_
            rintro e W3 (⟨rfl, hJ3, hk3⟩ | ⟨rfl, hJx3⟩)
            · have hB3 := (hk3.2 _ _ _ _ hBo hSB).trans hBo
              have hb3 := (hk3.2 _ _ _ _ hbo hSb).trans hbo
              gi_wp2
              go_roundw
              case rel =>
                have hrel2 : J (partsTo k p c j ++ partsJ k p c j (o + 1)) W3 := by rw [partsJ_succ, ← List.append_assoc]; exact hJ3
                have hF2 : Hid (F + partSize k p c j = preN k p c j + ((o + 1 : Nat) : Int) * partSize k p c j) := Lib.hid (by rw [HFe.out]; push_cast; rw [Int.add_mul]; omega)
                first | exact ⟨o + 1, F + partSize k p c j, by omega, by go_num, rfl, hF2, hrel2, hB3, hb3⟩ | ((repeat apply Exists.intro); exact ⟨⟨o + 1, F + partSize k p c j, by omega, by go_num, rfl, hF2, hrel2, hB3, hb3⟩, rfl⟩)
              case measure => simp [intOf]; omega
            · gi_wp2
              refine bodyPost_ret (results_none rfl _ _ _) rfl ?_
              exact ⟨⟨_, rfl⟩, .inr ⟨_, by have h := parts_prefix k p c (j := j) (m := o + 1) (by omega) (by have := HM.out; unfold ownNat; omega); rw [partsJ_succ, ← List.append_assoc] at h; exact h, hJx3⟩⟩
          · have hoe : (o : Int) = p := by omega
            gi_wp2
            go_roundw
            case rel =>
              refine ⟨j + 1, by omega, by go_num, ?_, ?_, hBo, hbo⟩
              · have h2 : F = preN k p c ((j : Int) + 1) := by rw [pre_step (by omega) (by omega), HM.out, HFe.out, hoe, Int.mul_comm]
                rw [h2]
                rfl
              · have ho : o = ownNat p j := by have := HM.out; unfold ownNat; omega
                show J (partsTo k p c j ++ partsJ k p c j (ownNat p j)) _
                rw [← ho]
                exact hJo
            case measure => simp [intOf]; omega

end Go.Proofs.YthigfjelgbdcfaaDoor
