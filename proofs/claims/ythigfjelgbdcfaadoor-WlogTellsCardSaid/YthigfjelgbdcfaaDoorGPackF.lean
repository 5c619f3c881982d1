/- The contract of the reference's Pack, for every configuration and every list of writes. -/
import Derived.Test.YthigfjelgbdcfaaDoorGZeros
import Derived.Deep.RegionHeld3
import Derived.Deep.AppendLies

set_option linter.unusedSimpArgs false
set_option linter.unusedVariables false

/-! Layer 16: the reference's Pack. -/
namespace Go.Proofs.YthigfjelgbdcfaaDoor
open Go.RowKit

def packE (r : Int) : Value := .tuple #[.slice none 0 0, .int .i64 r]

theorem fPack_conf (k p c : Int) (sv : Value) (w : World) (h : ¬ Fit k p c) : Calls Tryd.prog 8 #[conf k p c, sv] w fun e w' => e = .returned (packE 5) ∧ Below w.heap.size w w' := by
  have hF := fitsB_no h
  clear h
  go_enter Tryd.func8, Tryd.ntmps8
  go_wp2_with (first | (go_at_call 33; refine (fFits _ _ _ _).mono ?_; rintro e wc ⟨rfl, hbc⟩; have hBc : Below w.heap.size w wc := Below.trans (by repeat (first | exact Below.refl _ _ | assumption | refine Below.drew ?_ | refine Below.alloc ?_ (by first | omega | (simp; omega) | (simp; done)) _ | refine Below.setCell ?_ (by first | omega | (simp; omega) | (simp; done)) _)) (hbc.mono (by first | omega | (simp; omega) | (simp; done))); obtain ⟨hcc, hfc⟩ := bcell hbc; have hzc := hbc.size; try simp at hzc; try (have hz0' : w.heap.size < wc.heap.size := (by omega)); try (have hz1' : w.heap.size + 1 < wc.heap.size := (by omega)); try (have hz2' : w.heap.size + 1 + 1 < wc.heap.size := (by omega))))
  go_ret2
  exact ⟨rfl, (by repeat (first | exact Below.refl _ _ | assumption | refine Below.drew ?_ | refine Below.alloc ?_ (by first | omega | (simp; omega) | (simp; done)) _ | refine Below.setCell ?_ (by first | omega | (simp; omega) | (simp; done)) _))⟩

theorem fPack_long (k p c : Int) (sv : Value) (m : Nat) (cs : List Value) (w : World) (h : Fit k p c) (hs : Sl w sv m cs) (hl : homeF k c + 2 * p < m) : Calls Tryd.prog 8 #[conf k p c, sv] w fun e w' => e = .returned (packE 4) ∧ Below w.heap.size w w' := by
  obtain ⟨a, cap, rfl, _⟩ := hs
  have hF := fitsB_yes h
  have HF := Lib.hid h
  clear h
  go_enter Tryd.func8, Tryd.ntmps8
  go_wp2_with (first | (go_at_call 33; refine (fFits _ _ _ _).mono ?_; rintro e wc ⟨rfl, hbc⟩; have hBc : Below w.heap.size w wc := Below.trans (by repeat (first | exact Below.refl _ _ | assumption | refine Below.drew ?_ | refine Below.alloc ?_ (by first | omega | (simp; omega) | (simp; done)) _ | refine Below.setCell ?_ (by first | omega | (simp; omega) | (simp; done)) _)) (hbc.mono (by first | omega | (simp; omega) | (simp; done))); obtain ⟨hcc, hfc⟩ := bcell hbc; have hzc := hbc.size; try simp at hzc; try (have hz0' : w.heap.size < wc.heap.size := (by omega)); try (have hz1' : w.heap.size + 1 < wc.heap.size := (by omega)); try (have hz2' : w.heap.size + 1 + 1 < wc.heap.size := (by omega))) | (go_at_call 34; refine (fMost _ _ _ _ HF.out).mono ?_; rintro e wd ⟨rfl, hbwd⟩; have hBwd : Below w.heap.size w wd := Below.trans (by repeat (first | exact Below.refl _ _ | assumption | refine Below.drew ?_ | refine Below.alloc ?_ (by first | omega | (simp; omega) | (simp; done)) _ | refine Below.setCell ?_ (by first | omega | (simp; omega) | (simp; done)) _)) (hbwd.mono (by first | omega | (simp; omega) | (simp; done) | (have := (show Below w.heap.size w _ from by assumption).size; omega))); obtain ⟨hccwd, hfcwd⟩ := bcell hbwd; have hzwd := hbwd.size; try simp at hzwd; try (have hz0wd : w.heap.size < wd.heap.size := (by omega)); try (have hz1wd : w.heap.size + 1 < wd.heap.size := (by omega)); try (have hz2wd : w.heap.size + 1 + 1 < wd.heap.size := (by omega))))
  go_ret2
  exact ⟨rfl, (by repeat (first | exact Below.refl _ _ | assumption | refine Below.drew ?_ | refine Below.alloc ?_ (by first | omega | (simp; omega) | (simp; done)) _ | refine Below.setCell ?_ (by first | omega | (simp; omega) | (simp; done)) _))⟩

set_option maxRecDepth 100000 in
set_option maxHeartbeats 2000000 in
theorem fPack_yes (k p c : Int) (sv : Value) (l : List (Int × Int)) (m : Nat) (w : World) (hm : l.length = m) (h : Fit k p c) (hs : Sl w sv m (wrs l)) (hl : (m : Int) ≤ homeF k c + 2 * p) :
    Calls Tryd.prog 8 #[conf k p c, sv] w fun e w' => ((PkOk k p c l m ∧ ∃ v, e = .returned (.tuple #[v, .int .i64 0]) ∧ w'.ownsRow w.heap.size 28 1 v (logN k p c).toNat (u64s (packW (logN k p c).toNat l))) ∨ (¬ PkOk k p c l m ∧ e = .returned (packE 1))) ∧ Below w.heap.size w w' := by
  obtain ⟨a, cap, rfl, hs⟩ := hs
  obtain ⟨i0, hi, hz0, hz1, hz2⟩ := info_parts word_info
  have hF := fitsB_yes h
  have HF := Lib.hid h
  have HS := Lib.hid hs
  have HM := Lib.hid hm
  have hb := homeF_bd h
  have hp16 : p ≤ 16 := by unfold Fit at h; omega
  have hm2 : m ≤ 1058 := by omega
  have HL := Lib.hid hl
  have e1 : IntKind.u64.wrap (m : Int) = m := wu64 (by omega) (by omega)
  clear h hs hm hb
  have nl : ¬ (homeF k c + 2 * p < m) := by omega
  clear hl
  go_enter Tryd.func8, Tryd.ntmps8
  go_wp2_with (first | (go_at_call 33; refine (fFits _ _ _ _).mono ?_; rintro e wcT1 ⟨rfl, hbc⟩; have T1 := one_call (one_start _ _ _ _) hbc; obtain ⟨c0, c1, c2, hs⟩ := one_cells T1; clear hbc) | (go_at_call 34; refine (fMost _ _ _ _ HF.out).mono ?_; rintro e wcT2 ⟨rfl, hbc⟩; have T2 := one_call (T1) hbc; obtain ⟨c0, c1, c2, hs⟩ := one_cells T2; clear hbc))
  have HT2 := Lib.hid T2
  clear T1 T2 c0 c1 c2
  go_loopw [6, 7] (fun ov i wr => ∃ n : Nat, n ≤ m ∧ i = .int .i64 n ∧ Hid (PkOk k p c l n) ∧ Hid (wr.ownsRow (w.heap.size + 1) 28 1 ov (1 + 2 * n) (u64s ((m : Int) :: pk (l.take n)))) ∧ Hid (One w wr k p c)) (fun _ i _ => m - (intOf i).toNat)
  case atStart =>
    refine ⟨0, by omega, rfl, Lib.hid (PkOk.zero _ _ _ _), Lib.hid ?_, Lib.hid (one_call HT2.out (blk_alloc _ _))⟩
    exact ⟨rfl, .inr ⟨_, 1, #[.int .u64 m], rfl, by omega, World.alloc_heap_new _ _, by omega, by unfold maxLen; omega, rfl, rfl⟩⟩
  case round =>
    obtain ⟨n, hn, rfl, hok, how, h1⟩ := hrel
    clear HT2
    obtain ⟨c0, c1, c2, hz⟩ := one_cells h1.out
    by_cases hlt : n = m
    · subst hlt
      have hLB := logN_yes HF.out
      have hHB := homeF_bd HF.out
      obtain ⟨Ln, hLn⟩ : ∃ Ln : Nat, logN k p c = Ln := ⟨(logN k p c).toNat, by omega⟩
      have hge : 1 + 2 * n ≤ Ln := by have := HL.out; omega
      have hLm : Ln ≤ 2117 := by have := logN_bd k p c; omega
      have CL : Hid (∀ w1, Calls Tryd.prog 35 #[conf k p c] w1 fun e w' => e = .returned (.int .i64 (Ln : Int)) ∧ Below w1.heap.size w1 w') := Lib.hid (fun w1 => hLn ▸ fLogSize k p c w1)
      have HLn := Lib.hid hLn
      clear hLB hHB hLn
      obtain ⟨a6, cp6, rfl⟩ := owns_slice how.out
      have e9 : IntKind.i64.wrap ((Ln : Int) - ((1 : Int) + 2 * n)) = ((Ln - (1 + 2 * n) : Nat) : Int) := by rw [w64 (by omega) (by omega)]; omega
      have e8 : IntKind.i64.wrap ((Ln : Int) - ((1 + 2 * n : Nat) : Int)) = ((Ln - (1 + 2 * n) : Nat) : Int) := by rw [w64 (by omega) (by omega)]; omega
      have kint : Tryd.prog.underlying 3 = some (.int .i64) := by kernel_rfl
      go_wp2_with (first | (go_at_call 35; refine (CL.out _).mono ?_; rintro e wcT3 ⟨rfl, hbc⟩; have T3 := one_call (h1.out) hbc; obtain ⟨c0, c1, c2, hs⟩ := one_cells T3; have HT3 := Lib.hid hbc; clear hbc) | (at_builtin; refine wpList_append_zeros rfl (.tmp 72) (.tmp 77) 27 3 (by rfl) (w.heap.size + 1) 28 i0 _ 1 8 under_words kint hi hz0 hz1 hz2 rfl (by decide) (by decide) _ _ _ (by rfl) (owns_below how.out HT3.out) .i64 (Ln - (1 + 2 * n)) ?hx ?h1 ?hby ?hba ?_; rotate_right; intro v9 w9 hown9 hg9))
      case hx => first | rfl | (show Value.int .i64 _ = Value.int .i64 _; congr 1; omega)
      case h1 =>
        rw [zero_words]
        intro u hu
        simp at hu
        rw [hu.2]
        rfl
      case hby => omega
      case hba => omega
      go_ret2
      refine ⟨.inl ⟨hok.out, v9, rfl, ?_⟩, T3.1.grown hg9 T3.1.size (fun r hr => Nat.le_of_succ_le (how.out.lt r hr).1)⟩
      rw [HLn.out, Int.toNat_natCast]
      rw [zero_words, show 1 + 2 * n + (Ln - (1 + 2 * n)) = Ln by omega] at hown9
      have h := owns_base hown9 (Nat.le_succ _)
      rw [List.take_of_length_le (by rw [HM.out]; exact Nat.le_refl _)] at h
      unfold packW
      rw [HM.out]
      simpa using h
    · have hn' : n < m := by omega
      clear hn hlt
      have hbw0 : ∀ b o, a = some ⟨b, o, none⟩ → b < w.heap.size := fun b o e => by obtain ⟨b', o', e', h', _⟩ := HS.out (by omega); rw [e] at e'; cases e'; exact h'
      obtain ⟨b, o, rfl, k1⟩ := Sl.at HS.out (by omega)
      replace hbw0 : b < w.heap.size := hbw0 b o rfl
      obtain ⟨⟨x1, x2⟩, hx⟩ : ∃ x, l[n]? = some x := ⟨_, List.getElem?_eq_getElem (by rw [HM.out]; exact hn')⟩
      have d1 : wr.cell? ⟨b, o + n * 2, none⟩ = some (.int .i64 x1) := by rw [Nat.mul_comm]; exact k1 wr h1.out.1 (2 * n) _ (wrs_at _ _ _ hx).1
      have d2 : wr.cell? ⟨b, o + n * 2 + 1, none⟩ = some (.int .u64 x2) := by rw [Nat.mul_comm]; exact k1 wr h1.out.1 (2 * n + 1) _ (wrs_at _ _ _ hx).2
      have hbw : b < wr.heap.size := World.block_lt_of_cell? wr _ d1
      have HX := Lib.hid hx
      have K1 := Lib.hid k1
      have CP0 := Lib.hid (fun w1 => fPlace k p c _ w1 (wu_bd x1).1 (wu_bd x1).2)
      clear hx k1 HS
      cases hpl : placeB k p c (wu x1) with
      | false =>
        have CP : Hid (∀ w1, Calls Tryd.prog 12 #[conf k p c, .int .u64 (IntKind.u64.wrap x1)] w1 fun e w' => e = .returned (.tuple #[.int .i64 0, .bool false]) ∧ Below w1.heap.size w1 w') := Lib.hid (fun w1 => by have := CP0.out w1; rw [hpl] at this; exact this)
        have HP := Lib.hid hpl
        clear CP0 hpl
        go_wp2
        have hrg := regrown_cell wr
        refine wp_region_quiet_below (by kernel_rfl) (by kernel_rfl) ?_
        repeat (quiet_step (exact Calls.regrown_of (CP.out _)))
        refine wpQuiet_nil ?_; intro wq hwq; obtain ⟨pq, hpq⟩ := hwq
        have hB : Below w.heap.size w wq := h1.out.1.trans ((hpq ▸ below_regrown _ _ _ : Below _ wr wq).mono (by omega))
        clear hrg hpq
        go_wp2
        go_ret2
        exact ⟨.inr ⟨fun h => (by have := h.place hn' HX.out; rw [HP.out] at this; cases this), rfl⟩, hB⟩
      | true =>
        have CP : Hid (∀ w1, Calls Tryd.prog 12 #[conf k p c, .int .u64 (IntKind.u64.wrap x1)] w1 fun e w' => e = .returned (.tuple #[.int .i64 (wu x1), .bool true]) ∧ Below w1.heap.size w1 w') := Lib.hid (fun w1 => by have := CP0.out w1; rw [hpl] at this; exact this)
        have HP := Lib.hid hpl
        clear CP0 hpl
        go_wp2
        have hrg := regrown_cell wr
        refine wp_region_quiet_below (by kernel_rfl) (by kernel_rfl) ?_
        repeat (quiet_step (exact Calls.regrown_of (CP.out _)))
        refine wpQuiet_nil ?_; intro wq hwq; obtain ⟨pq, hpq⟩ := hwq
        have hbq : Below wr.heap.size wr wq := (hpq ▸ below_regrown _ _ _ : Below _ wr wq)
        have h2 := Lib.hid (one_call h1.out hbq)
        have how2 := Lib.hid (owns_below how.out hbq)
        clear hrg hpq h1 how c0 c1 c2 hz d1 d2 hbw hbq
        go_wp2
        go_loopw [10] (fun jv wi => ∃ q : Nat, q ≤ n ∧ jv = .int .i64 q ∧ Hid (∀ j y, j < q → l[j]? = some y → y.1 ≠ x1) ∧ Hid (Below wq.heap.size wq wi)) (fun jv _ => n - (intOf jv).toNat)
        case atStart => exact ⟨0, by omega, rfl, Lib.hid (fun j y h => by omega), Lib.hid (Below.refl _ _)⟩
        case round =>
          obtain ⟨q, hq, rfl, hne, hbi⟩ := hrel
          have h3 := Lib.hid (one_call h2.out hbi.out)
          have how3 := Lib.hid (owns_below how2.out hbi.out)
          clear h2 how2
          have d1 : wr.cell? ⟨b, o + n * 2, none⟩ = some (.int .i64 x1) := by rw [Nat.mul_comm]; exact K1.out wr h3.out.1 (2 * n) _ (wrs_at _ _ _ HX.out).1
          have d2 : wr.cell? ⟨b, o + n * 2 + 1, none⟩ = some (.int .u64 x2) := by rw [Nat.mul_comm]; exact K1.out wr h3.out.1 (2 * n + 1) _ (wrs_at _ _ _ HX.out).2
          have hbw : b < wr.heap.size := World.block_lt_of_cell? wr _ d1
          by_cases hqn : q = n
          · subst hqn
            have hrow := Lib.hid how3.out
            have n1 := World.new_ne wr ⟨b, o + q * 2, none⟩ d1
            have n2 := World.new_ne wr ⟨b, o + q * 2 + 1, none⟩ d2
            have hbw0 : b < w.heap.size := hbw0
            clear how3
            go_wp2
            have hz3 := (one_cells h3.out).2.2.2
            go_region_held3 (fun W => W.cell? ⟨b, o + q * 2, none⟩ = some (.int .i64 x1) ∧ W.cell? ⟨b, o + q * 2 + 1, none⟩ = some (.int .u64 x2)) (first | go_keep | (have hg9 := HG9.out; refine ⟨?_, ?_⟩ <;> (rw [World.grownBy.cell_far hg9 _ (by simp; omega) (fun e => absurd (show w.heap.size + 1 ≤ b from (hrow.out.lt _ e.symm).1) (by omega))]; simp [*, World.cell?_alloc_some]))) ((refine step_append_lies _ rfl (.tmp 58) (.tmp 70) 27 (by rfl) (w.heap.size + 1) 28 i0 _ 1 8 under_words hi hz0 hz1 hz2 rfl (by decide) _ _ _ (by rfl) (hrow.out.alloc _) ⟨wr.heap.size, 0, none⟩ 2 2 [.int .u64 (wu x1), .int .u64 x2] (by rfl) (by rfl) (World.news_of_block (World.alloc_heap_new wr.drew _)) (by intro u hu; simp at hu; rcases hu with rfl | rfl <;> rfl) (by omega) (by unfold maxLen; omega) (by omega) (by simp; omega) _ rfl ?_; intro g9 cap9 w9 hown9 hg90 _ _; have HO9 := Lib.hid hown9; have HG9 := Lib.hid hg90; clear hown9 hg90))
            have HP1 := Lib.hid (hok.out.succ HX.out HP.out hne.out)
            have hgA : World.grownBy (wr.alloc _).drew w9 u6.ownBlock := HG9.out
            have HW := Lib.hid (show One w w9 k p c from one_grown (one_call h3.out (Below.drew (blk_alloc wr _))) HG9.out (fun r hr => by have := (hrow.out.lt r hr).1; omega))
            have HR9 := Lib.hid (show w9.ownsRow (w.heap.size + 1) 28 1 (.slice (some ⟨g9, 0, none⟩) (1 + 2 * q + 2) cap9) (1 + 2 * (q + 1)) (u64s ((m : Int) :: pk (l.take (q + 1)))) from by
              have h := HO9.out
              rw [show 1 + 2 * q + 2 = 1 + 2 * (q + 1) by omega] at h
              rw [show 1 + 2 * q + 2 = 1 + 2 * (q + 1) by omega, pk_take HX.out]
              simpa using h)
            clear hgA HO9 HG9 h3 hrow hok hne HP
            go_wp2
            go_roundw
            case rel => exact ⟨q + 1, by omega, by go_num, HP1, HR9, HW⟩
            case measure => simp [intOf]; omega
          · have hq' : q < n := by omega
            clear hq hqn
            obtain ⟨⟨y1, y2⟩, hy⟩ : ∃ y, l[q]? = some y := ⟨_, List.getElem?_eq_getElem (by rw [HM.out]; omega)⟩
            have d3 : wr.cell? ⟨b, o + q * 2, none⟩ = some (.int .i64 y1) := by rw [Nat.mul_comm]; exact K1.out wr h3.out.1 (2 * q) _ (wrs_at _ _ _ hy).1
            have hqm : q < m := by omega
            have HY := Lib.hid hy
            clear hy
            by_cases hxy : y1 = x1
            · have hxyb : (y1 == x1) = true := by simpa using hxy
              go_wp2
              go_quiet (fail)
              go_wp2
              go_ret2
              exact ⟨.inr ⟨fun h => (h.twice hn' HX.out hq' HY.out hxy), rfl⟩, below_drewN h3.out.1 _⟩
            · have hxyb : (y1 == x1) = false := by simpa using hxy
              have HN := Lib.hid (show ∀ j y, j < q + 1 → l[j]? = some y → y.1 ≠ x1 from fun j y hj hjy => by
                rcases Nat.lt_or_ge j q with h | h
                · exact hne.out j y h hjy
                · have e : j = q := by omega
                  subst e
                  rw [HY.out] at hjy
                  cases hjy
                  exact hxy)
              clear hxy hne
              go_wp2
              go_quiet (fail)
              go_wp2
              go_roundw
              case rel => exact ⟨q + 1, by omega, by go_num, HN, Lib.hid (below_drewN hbi.out _)⟩
              case measure => simp [intOf]; omega

end Go.Proofs.YthigfjelgbdcfaaDoor
