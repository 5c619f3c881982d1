/- The contracts of wlog's and the reference's Unpack, for every configuration and every list of words. -/
import Derived.Test.YthigfjelgbdcfaaDoorGPlainF

set_option linter.unusedSimpArgs false
set_option linter.unusedVariables false

/-! Layer 16: Unpack. -/
namespace Go.Proofs.YthigfjelgbdcfaaDoor
open Go.RowKit Go.Maps

def unE (r : Int) : Value := .tuple #[.slice none 0 0, .int .i64 r]

theorem wUn_conf (k p c : Int) (sv : Value) (w : World) (h : ¬ Fit k p c) : Calls Tryd.prog 15 #[conf k p c, sv] w fun e w' => e = .returned (unE 5) ∧ Below w.heap.size w w' := by
  have hF := fitsB_no h
  clear h
  go_enter Tryd.func15, Tryd.ntmps15
  go_wp2_with (first | (go_at_call 41; refine (rFits _ _ _ _).mono ?_; rintro e wc ⟨rfl, hbc⟩; have hBc : Below w.heap.size w wc := Below.trans (by repeat (first | exact Below.refl _ _ | assumption | refine Below.drew ?_ | refine Below.alloc ?_ (by first | omega | (simp; omega) | (simp; done)) _ | refine Below.setCell ?_ (by first | omega | (simp; omega) | (simp; done)) _)) (hbc.mono (by first | omega | (simp; omega) | (simp; done))); obtain ⟨hcc, hfc⟩ := bcell hbc; have hzc := hbc.size; try simp at hzc; try (have hz0' : w.heap.size < wc.heap.size := (by omega)); try (have hz1' : w.heap.size + 1 < wc.heap.size := (by omega)); try (have hz2' : w.heap.size + 1 + 1 < wc.heap.size := (by omega))))
  go_ret2
  exact ⟨rfl, (by repeat (first | exact Below.refl _ _ | assumption | refine Below.drew ?_ | refine Below.alloc ?_ (by first | omega | (simp; omega) | (simp; done)) _ | refine Below.setCell ?_ (by first | omega | (simp; omega) | (simp; done)) _))⟩

set_option maxHeartbeats 8000000 in
theorem wUn_len (k p c : Int) (sv : Value) (n Ln : Nat) (cs : List Value) (w : World) (ho : Objs w) (h : Fit k p c) (hL : logN k p c = Ln) (hs : Sl w sv n cs) (hl : (n : Int) ≠ Ln) : Calls Tryd.prog 15 #[conf k p c, sv] w fun e w' => e = .returned (unE 2) ∧ Below w.heap.size w w' := by
  obtain ⟨a, cap, rfl, _⟩ := hs
  have hF := fitsB_yes h
  have HO := Lib.hid ho
  have CL : Hid (∀ w1, Objs w1 → Calls Tryd.prog 43 #[conf k p c] w1 fun e w' => e = .returned (.int .i64 (Ln : Int)) ∧ Below w1.heap.size w1 w') := Lib.hid (fun w1 h => hL ▸ rLogSize k p c w1 h)
  have hne : ((n : Int) != Ln) = true := by simpa using hl
  clear h ho hl hL
  go_enter Tryd.func15, Tryd.ntmps15
  go_wp2_with (first | (go_at_call 41; refine (rFits _ _ _ _).mono ?_; rintro e wcT1 ⟨rfl, hbc⟩; have T1 := one_call (one_start _ _ _ _) hbc; obtain ⟨c0, c1, c2, hs⟩ := one_cells T1; clear hbc))
  have HOc := Lib.hid (HO.out.below T1.1)
  have hrg := regrown_cell wcT1
  refine wp_region_quiet_below (by kernel_rfl) (by kernel_rfl) ?_
  repeat (quiet_step (exact Calls.regrown_of (CL.out _ (HOc.out.regrown _ _))))
  refine wpQuiet_nil ?_; intro wq hwq; obtain ⟨pq, hpq⟩ := hwq
  have hB : Below w.heap.size w wq := T1.1.trans ((hpq ▸ below_regrown _ _ _ : Below _ wcT1 wq).mono (by omega))
  clear hrg hpq
  go_wp2
  go_ret2
  exact ⟨rfl, hB⟩

theorem wUn_long (k p c : Int) (sv : Value) (n Ln : Nat) (x0 : Int) (xs : List Int) (w : World) (ho : Objs w) (h : Fit k p c) (hL : logN k p c = Ln) (hn : (n : Int) = Ln) (hs : Sl w sv n (u64s (x0 :: xs))) (hl : homeF k c + 2 * p < x0) : Calls Tryd.prog 15 #[conf k p c, sv] w fun e w' => e = .returned (unE 2) ∧ Below w.heap.size w w' := by
  obtain ⟨a, cap, rfl, hs⟩ := hs
  have hF := fitsB_yes h
  have HO := Lib.hid ho
  have hn0 : 0 < n := by have := logN_yes h; have := homeF_bd h; unfold Fit at h; omega
  have hm := homeF_bd h
  have hp16 : p ≤ 16 ∧ 1 ≤ p := by unfold Fit at h; omega
  have e1 : IntKind.u64.wrap (homeF k c + 2 * p) = homeF k c + 2 * p := wu64 (by omega) (by omega)
  have CL : Hid (∀ w1, Objs w1 → Calls Tryd.prog 43 #[conf k p c] w1 fun e w' => e = .returned (.int .i64 (Ln : Int)) ∧ Below w1.heap.size w1 w') := Lib.hid (fun w1 h => hL ▸ rLogSize k p c w1 h)
  have CM : Hid (∀ w1, Objs w1 → Calls Tryd.prog 44 #[conf k p c] w1 fun e w' => e = .returned (.int .i64 (homeF k c + 2 * p)) ∧ Below w1.heap.size w1 w') := Lib.hid (fun w1 h' => rMost k p c w1 h' h)
  obtain ⟨b, o, rfl, k1⟩ := Sl.at hs hn0
  have hbw0 : b < w.heap.size := by obtain ⟨b', o', e', h', _⟩ := hs hn0; cases e'; exact h'
  have K1 := Lib.hid (fun W hB => k1 W hB 0 (.int .u64 x0) rfl)
  have hne : ((n : Int) != Ln) = false := by simpa using hn
  clear h ho hL hs k1 hm hn
  go_enter Tryd.func15, Tryd.ntmps15
  go_wp2_with (first | (go_at_call 41; refine (rFits _ _ _ _).mono ?_; rintro e wcT1 ⟨rfl, hbc⟩; have T1 := one_call (one_start _ _ _ _) hbc; obtain ⟨c0, c1, c2, hs⟩ := one_cells T1; clear hbc))
  have HOc := Lib.hid (HO.out.below T1.1)
  have d0 : wcT1.cell? ⟨b, o, none⟩ = some (.int .u64 x0) := K1.out wcT1 T1.1
  have hbw : b < wcT1.heap.size := World.block_lt_of_cell? wcT1 _ d0
  have hrg := regrown_cell wcT1
  refine wp_region_quiet_below (by kernel_rfl) (by kernel_rfl) ?_
  repeat (quiet_step (first | exact Calls.regrown_of (CL.out _ (HOc.out.regrown _ _)) | exact Calls.regrown_of (CM.out _ (HOc.out.regrown _ _))))
  refine wpQuiet_nil ?_; intro wq hwq; obtain ⟨pq, hpq⟩ := hwq
  have hB : Below w.heap.size w wq := T1.1.trans ((hpq ▸ below_regrown _ _ _ : Below _ wcT1 wq).mono (by omega))
  clear hrg hpq
  go_wp2
  go_ret2
  exact ⟨rfl, hB⟩

end Go.Proofs.YthigfjelgbdcfaaDoor

/-! Layer 16: Unpack, where the words have the right number and the first one is right. -/
namespace Go.Proofs.YthigfjelgbdcfaaDoor
open Go.RowKit Go.Maps

set_option maxRecDepth 100000 in
set_option maxHeartbeats 8000000 in
theorem wUn_yes (k p c : Int) (sv : Value) (N Ln q : Nat) (ws : List Int) (w : World) (hNL : N = Ln) (ho : Objs w) (h : Fit k p c) (hL : logN k p c = Ln) (hn : ws.length = Ln) (h0 : ws.getD 0 0 = q) (hq : (q : Int) ≤ homeF k c + 2 * p) (hu : ∀ j, 0 ≤ ws.getD j 0 ∧ ws.getD j 0 ≤ 18446744073709551615) (hs : Sl w sv N (u64s ws)) :
    Calls Tryd.prog 15 #[conf k p c, sv] w fun e w' => ((UnOk k p c Ln ws q ∧ ∃ v, e = .returned (.tuple #[v, .int .i64 0]) ∧ w'.ownsRow w.heap.size 71 2 v q (wrs (unL ws q))) ∨ (¬ UnOk k p c Ln ws q ∧ e = .returned (unE 2))) ∧ Below w.heap.size w w' := by
  have HSV := Lib.hid hs
  obtain ⟨a, cap, rfl, hs⟩ := hs
  obtain ⟨i0, hi, hz0, hz1, hz2⟩ := info_parts write_info
  have hF := fitsB_yes h
  have HF := Lib.hid h
  have HO := Lib.hid ho
  have hLB := logN_yes h
  have hm := homeF_bd h
  have hp16 : p ≤ 16 ∧ 1 ≤ p := by unfold Fit at h; omega
  have hge : 1 + 2 * q ≤ Ln := by omega
  have hLm : Ln ≤ 2117 := by have := logN_bd k p c; omega
  have e1 : IntKind.u64.wrap (homeF k c + 2 * p) = homeF k c + 2 * p := wu64 (by omega) (by omega)
  have e2 : IntKind.i64.wrap (q : Int) = q := w64 (by omega) (by omega)
  have CL : Hid (∀ w1, Objs w1 → Calls Tryd.prog 43 #[conf k p c] w1 fun e w' => e = .returned (.int .i64 (Ln : Int)) ∧ Below w1.heap.size w1 w') := Lib.hid (fun w1 h => hL ▸ rLogSize k p c w1 h)
  have CM : Hid (∀ w1, Objs w1 → Calls Tryd.prog 44 #[conf k p c] w1 fun e w' => e = .returned (.int .i64 (homeF k c + 2 * p)) ∧ Below w1.heap.size w1 w') := Lib.hid (fun w1 h' => rMost k p c w1 h' h)
  obtain ⟨b, o, rfl, k1⟩ := Sl.at hs (by omega)
  have hbw0 : b < w.heap.size := by obtain ⟨b', o', e', h', _⟩ := hs (by omega); cases e'; exact h'
  have K1 := Lib.hid (show ∀ W, Below w.heap.size w W → ∀ j, j < Ln → W.cell? ⟨b, o + j, none⟩ = some (.int .u64 (ws.getD j 0)) from fun W hB j hj => k1 W hB j _ (by
    have hj' : j < ws.length := by omega
    simp [u64s, List.getD, hj']))
  have HN := Lib.hid hn
  have HNL := Lib.hid hNL
  have hne : ((N : Int) != Ln) = false := by simp [hNL]
  have hN0 : 0 < N := by omega
  have H0 := Lib.hid h0
  have HU := Lib.hid hu
  have HQ := Lib.hid hq
  have HL := Lib.hid hL
  have nq : ¬ (homeF k c + 2 * p < (q : Int)) := by omega
  clear h ho hL hs k1 hm hn h0 hu hLB hq hNL
  go_enter Tryd.func15, Tryd.ntmps15
  go_wp2_with (first | (go_at_call 41; refine (rFits _ _ _ _).mono ?_; rintro e wcT1 ⟨rfl, hbc⟩; have T1 := one_call (one_start _ _ _ _) hbc; obtain ⟨c0, c1, c2, hs⟩ := one_cells T1; clear hbc))
  have HOc := Lib.hid (HO.out.below T1.1)
  have d0 : wcT1.cell? ⟨b, o, none⟩ = some (.int .u64 q) := by have := K1.out wcT1 T1.1 0 (by omega); rw [H0.out] at this; exact this
  have hbw : b < wcT1.heap.size := World.block_lt_of_cell? wcT1 _ d0
  have hrg := regrown_cell wcT1
  refine wp_region_quiet_below (by kernel_rfl) (by kernel_rfl) ?_
  repeat (quiet_step (first | exact Calls.regrown_of (CL.out _ (HOc.out.regrown _ _)) | exact Calls.regrown_of (CM.out _ (HOc.out.regrown _ _))))
  refine wpQuiet_nil ?_; intro wq hwq; obtain ⟨pq, hpq⟩ := hwq
  have T2 := Lib.hid (one_call T1 (hpq ▸ below_regrown _ _ _ : Below _ wcT1 wq))
  have d1 : wq.cell? ⟨b, o, none⟩ = some (.int .u64 q) := by have := K1.out wq T2.out.1 0 (by omega); rw [H0.out] at this; exact this
  clear hrg hpq T1 HOc d0 hbw c0 c1 c2 hs
  go_wp2
  clear d1
  go_loopw [4, 32] (fun ov i wr => ∃ n : Nat, n ≤ q ∧ i = .int .i64 n ∧ Hid (UnPl k p c ws n) ∧ Hid (wr.ownsRow (w.heap.size + 1) 71 2 ov n (wrs (unL ws n))) ∧ Hid (One w wr k p c)) (fun _ i _ => q - (intOf i).toNat)
  case atStart => exact ⟨0, by omega, rfl, Lib.hid (fun i h => by omega), Lib.hid (World.ownsRow_nil _ _ _ _), Lib.hid T2.out⟩
  case round =>
    obtain ⟨n, hn, rfl, hpl, how, h1⟩ := hrel
    clear T2
    obtain ⟨c0, c1, c2, hz⟩ := one_cells h1.out
    obtain ⟨a4, cp4, rfl⟩ := owns_slice how.out
    by_cases hlt : n = q
    · subst hlt
      have hlm : (n : Int) ≤ homeF k c + 2 * p := HQ.out
      have hsl := Lib.hid (sl_of_owns how.out)
      have hwf := unL_wf hpl.out (fun j => (HU.out j).1)
      have hun := unL_len ws n
      have HOr := Lib.hid (HO.out.below h1.out.1)
      by_cases hpk : PkOk k p c (unL ws n) n
      · have CP := Lib.hid (wPack_ok k p c _ (unL ws n) n wr HOr.out hun HF.out hsl.out hlm hwf hpk)
        have HPK := Lib.hid hpk
        have hL2 : (logN k p c).toNat = Ln := by rw [HL.out]; simp
        rw [hL2] at CP
        clear hpk hwf hun hlm hL2
        by_cases heq : packW Ln (unL ws n) = ws
        · have HE := Lib.hid heq
          clear heq
          have CE : Hid (∀ wp av cv, wp.ownsRow wr.heap.size 28 1 (.slice av Ln cv) Ln (u64s (packW Ln (unL ws n))) → Below w.heap.size w wp → Calls Tryd.prog 45 #[.slice av Ln cv, .slice (some ⟨b, o, none⟩) N cap] wp fun e w' => e = .returned (.bool true) ∧ Below wp.heap.size wp w') := Lib.hid (fun wp av cv hv hb => by
            have hlen := packW_len (L := Ln) (l := unL ws n) (by rw [unL_len]; omega)
            have h := equal (.slice av Ln cv) (.slice (some ⟨b, o, none⟩) N cap) (packW Ln (unL ws n)) ws wp (by rw [hlen]; exact sl_of_owns hv) (by rw [HN.out, ← HNL.out]; exact HSV.out.below hb) (by rw [hlen]; omega)
            rw [show decide (packW Ln (unL ws n) = ws) = true from decide_eq_true HE.out] at h
            exact h)
          go_wp2_with (first | (go_at_call 13; refine (CP.out).mono ?_; rintro e wp ⟨⟨v, rfl, hv⟩, hbp⟩; obtain ⟨av, cv, rfl⟩ := owns_slice hv; have T3 := Lib.hid (one_call h1.out hbp); have HV := Lib.hid hv; have how3 := Lib.hid (owns_below how.out hbp); clear hbp hv) | (go_at_call 45; refine (CE.out _ _ _ HV.out T3.out.1).mono ?_; rintro e we ⟨rfl, hbe⟩; have T4 := Lib.hid (one_call T3.out hbe); have how4 := Lib.hid (owns_below how3.out hbe); clear hbe))
          go_ret2
          exact ⟨.inl ⟨⟨hpl.out, HPK.out, HE.out⟩, _, rfl, owns_base how4.out (Nat.le_succ _)⟩, T4.out.1⟩
        · have HE := Lib.hid heq
          clear heq
          have CE : Hid (∀ wp av cv, wp.ownsRow wr.heap.size 28 1 (.slice av Ln cv) Ln (u64s (packW Ln (unL ws n))) → Below w.heap.size w wp → Calls Tryd.prog 45 #[.slice av Ln cv, .slice (some ⟨b, o, none⟩) N cap] wp fun e w' => e = .returned (.bool false) ∧ Below wp.heap.size wp w') := Lib.hid (fun wp av cv hv hb => by
            have hlen := packW_len (L := Ln) (l := unL ws n) (by rw [unL_len]; omega)
            have h := equal (.slice av Ln cv) (.slice (some ⟨b, o, none⟩) N cap) (packW Ln (unL ws n)) ws wp (by rw [hlen]; exact sl_of_owns hv) (by rw [HN.out, ← HNL.out]; exact HSV.out.below hb) (by rw [hlen]; omega)
            rw [show decide (packW Ln (unL ws n) = ws) = false from decide_eq_false HE.out] at h
            exact h)
          go_wp2_with (first | (go_at_call 13; refine (CP.out).mono ?_; rintro e wp ⟨⟨v, rfl, hv⟩, hbp⟩; obtain ⟨av, cv, rfl⟩ := owns_slice hv; have T3 := Lib.hid (one_call h1.out hbp); have HV := Lib.hid hv; have how3 := Lib.hid (owns_below how.out hbp); clear hbp hv) | (go_at_call 45; refine (CE.out _ _ _ HV.out T3.out.1).mono ?_; rintro e we ⟨rfl, hbe⟩; have T4 := Lib.hid (one_call T3.out hbe); have how4 := Lib.hid (owns_below how3.out hbe); clear hbe))
          go_ret2
          exact ⟨.inr ⟨fun h => HE.out h.2.2, rfl⟩, T4.out.1⟩
      · have CP : Hid (Calls Tryd.prog 13 #[conf k p c, .slice a4 n cp4] wr fun e w' => e = .returned (.tuple #[.slice none 0 0, .int .i64 1]) ∧ Below wr.heap.size wr w') := Lib.hid (wPack_bad k p c _ (unL ws n) n wr HOr.out hun HF.out hsl.out hlm hwf hpk)
        have HPK := Lib.hid hpk
        clear hpk hwf hun hlm
        go_wp2_with (first | (go_at_call 13; refine (CP.out).mono ?_; rintro e wp ⟨rfl, hbp⟩; have T3 := Lib.hid (one_call h1.out hbp); clear hbp))
        go_ret2
        exact ⟨.inr ⟨fun h => HPK.out h.2.1, rfl⟩, T3.out.1⟩
    · have hn' : n < q := by omega
      clear hn hlt
      obtain ⟨x1, hx1⟩ : ∃ x, x = ws.getD (1 + 2 * n) 0 := ⟨_, rfl⟩
      obtain ⟨x2, hx2⟩ : ∃ x, x = ws.getD (2 + 2 * n) 0 := ⟨_, rfl⟩
      have d1 : wr.cell? ⟨b, o + (1 + 2 * n), none⟩ = some (.int .u64 x1) := by rw [hx1]; exact K1.out wr h1.out.1 _ (by omega)
      have d2 : wr.cell? ⟨b, o + (2 + 2 * n), none⟩ = some (.int .u64 x2) := by rw [hx2]; exact K1.out wr h1.out.1 _ (by omega)
      have hbw : b < wr.heap.size := World.block_lt_of_cell? wr _ d1
      have t1 : ((1 : Int) + 2 * (n : Int)).toNat = 1 + 2 * n := by omega
      have t2 : ((2 : Int) + 2 * (n : Int)).toNat = 2 + 2 * n := by omega
      have l1 : (0 : Int) ≤ 1 + 2 * (n : Int) := by omega
      have l2 : (0 : Int) ≤ 2 + 2 * (n : Int) := by omega
      have l3 : (1 : Int) + 2 * (n : Int) < N := by have := HNL.out; omega
      have l4 : (2 : Int) + 2 * (n : Int) < N := by have := HNL.out; omega
      have r0 : IntKind.i64.wrap (2 * (n : Int)) = 2 * n := w64 (by omega) (by omega)
      have r1 : IntKind.i64.wrap (1 + 2 * (n : Int)) = 1 + 2 * n := w64 (by omega) (by omega)
      have r2 : IntKind.i64.wrap (2 + 2 * (n : Int)) = 2 + 2 * n := w64 (by omega) (by omega)
      have HOr := Lib.hid (HO.out.below h1.out.1)
      have bx1 : 0 ≤ x1 ∧ x1 ≤ 18446744073709551615 := hx1 ▸ HU.out (1 + 2 * n)
      have CP0 := Lib.hid (fun w1 h => wPlace k p c x1 w1 h bx1.1 bx1.2)
      have HX1 := Lib.hid hx1
      have HX2 := Lib.hid hx2
      clear hx1 hx2
      cases hpb : placeB k p c x1 with
      | false =>
        have CP : Hid (∀ w1, Objs w1 → Calls Tryd.prog 11 #[conf k p c, .int .u64 x1] w1 fun e w' => e = .returned (.tuple #[.int .i64 0, .bool false]) ∧ Below w1.heap.size w1 w') := Lib.hid (fun w1 h => by have := CP0.out w1 h; rw [hpb] at this; exact this)
        have HP := Lib.hid hpb
        clear CP0 hpb
        go_wp2
        have hrg := regrown_cell wr
        refine wp_region_quiet_below (by kernel_rfl) (by kernel_rfl) ?_
        repeat (quiet_step (exact Calls.regrown_of (CP.out _ (HOr.out.regrown _ _))))
        refine wpQuiet_nil ?_; intro wq hwq; obtain ⟨pq, hpq⟩ := hwq
        have hB : Below w.heap.size w wq := h1.out.1.trans ((hpq ▸ below_regrown _ _ _ : Below _ wr wq).mono (by omega))
        clear hrg hpq
        go_wp2
        go_ret2
        exact ⟨.inr ⟨fun h => (by have := h.1 n hn'; rw [← HX1.out, HP.out] at this; cases this), rfl⟩, hB⟩
      | true =>
        have CP : Hid (∀ w1, Objs w1 → Calls Tryd.prog 11 #[conf k p c, .int .u64 x1] w1 fun e w' => e = .returned (.tuple #[.int .i64 x1, .bool true]) ∧ Below w1.heap.size w1 w') := Lib.hid (fun w1 h => by have := CP0.out w1 h; rw [hpb] at this; exact this)
        have HP := Lib.hid hpb
        clear CP0 hpb
        go_wp2
        have hrg := regrown_cell wr
        refine wp_region_quiet_below (by kernel_rfl) (by kernel_rfl) ?_
        repeat (quiet_step (exact Calls.regrown_of (CP.out _ (HOr.out.regrown _ _))))
        refine wpQuiet_nil ?_; intro wq hwq; obtain ⟨pq, hpq⟩ := hwq
        have hbq : Below wr.heap.size wr wq := (hpq ▸ below_regrown _ _ _ : Below _ wr wq)
        have h2 := Lib.hid (one_call h1.out hbq)
        have how2 := Lib.hid (owns_below how.out hbq)
        have d3 : wq.cell? ⟨b, o + (2 + 2 * n), none⟩ = some (.int .u64 x2) := by rw [HX2.out]; exact K1.out wq h2.out.1 _ (by omega)
        have hzq := (one_cells h2.out).2.2.2
        clear hrg hpq h1 how c0 c1 c2 hz d1 d2 hbw hbq HOr
        go_wp2_with (first | (at_builtin; refine wpList_append_own _ rfl (.tmp 48) (.tmp 57) 26 (by rfl) (w.heap.size + 1) 71 i0 _ 2 16 under_writes hi hz0 hz1 hz2 rfl (by decide) _ _ _ (by rfl) (how2.out.alloc _) ⟨wq.heap.size, 0, none⟩ 1 1 [.int .i64 x1, .int .u64 x2] (by rfl) (by rfl) (World.news_of_block (World.alloc_heap_new wq _)) (by intro u hu; simp at hu; rcases hu with rfl | rfl <;> rfl) (by unfold maxLen; omega) (by omega) (by simp; omega) ?_; intro v9 w9 hown9 hg9 _))
        have R1 := Lib.hid (show w9.ownsRow (w.heap.size + 1) 71 2 v9 (n + 1) (wrs (unL ws (n + 1))) from by rw [unL_succ, wrs_append, ← HX1.out, ← HX2.out]; exact hown9)
        have R2 := Lib.hid (one_grown (one_call h2.out (blk_alloc _ _)) hg9 (fun r hr => by have := (how2.out.lt r hr).1; omega))
        have R3 := Lib.hid (hpl.out.succ (HX1.out ▸ HP.out))
        clear hown9 hg9
        go_roundw
        case rel => exact ⟨n + 1, by omega, by go_num, R3, R1, R2⟩
        case measure => simp [intOf]; omega

end Go.Proofs.YthigfjelgbdcfaaDoor

/-! Layer 16: the reference's Unpack (printed by wip/gen_unf.py). -/
namespace Go.Proofs.YthigfjelgbdcfaaDoor
open Go.RowKit Go.Maps

theorem fPack_bad (k p c : Int) (sv : Value) (l : List (Int × Int)) (m : Nat) (w : World) (hm : l.length = m) (h : Fit k p c) (hs : Sl w sv m (wrs l)) (hl : (m : Int) ≤ homeF k c + 2 * p) (hb : ¬ PkOk k p c l m) :
    Calls Tryd.prog 8 #[conf k p c, sv] w fun e w' => e = .returned (packE 1) ∧ Below w.heap.size w w' :=
  (fPack_yes k p c sv l m w hm h hs hl).mono (by rintro e w' ⟨⟨h1, _⟩ | ⟨_, h2⟩, h3⟩; exact absurd h1 hb; exact ⟨h2, h3⟩)
theorem fPack_ok (k p c : Int) (sv : Value) (l : List (Int × Int)) (m : Nat) (w : World) (hm : l.length = m) (h : Fit k p c) (hs : Sl w sv m (wrs l)) (hl : (m : Int) ≤ homeF k c + 2 * p) (hb : PkOk k p c l m) :
    Calls Tryd.prog 8 #[conf k p c, sv] w fun e w' => (∃ v, e = .returned (.tuple #[v, .int .i64 0]) ∧ w'.ownsRow w.heap.size 28 1 v (logN k p c).toNat (u64s (packW (logN k p c).toNat l))) ∧ Below w.heap.size w w' :=
  (fPack_yes k p c sv l m w hm h hs hl).mono (by rintro e w' ⟨⟨_, h1⟩ | ⟨h2, _⟩, h3⟩; exact ⟨h1, h3⟩; exact absurd hb h2)

theorem fUn_conf (k p c : Int) (sv : Value) (w : World) (h : ¬ Fit k p c) : Calls Tryd.prog 16 #[conf k p c, sv] w fun e w' => e = .returned (unE 5) ∧ Below w.heap.size w w' := by
  have hF := fitsB_no h
  clear h
  go_enter Tryd.func16, Tryd.ntmps16
  go_wp2_with (first | (go_at_call 33; refine (fFits _ _ _ _).mono ?_; rintro e wc ⟨rfl, hbc⟩; have hBc : Below w.heap.size w wc := Below.trans (by repeat (first | exact Below.refl _ _ | assumption | refine Below.drew ?_ | refine Below.alloc ?_ (by first | omega | (simp; omega) | (simp; done)) _ | refine Below.setCell ?_ (by first | omega | (simp; omega) | (simp; done)) _)) (hbc.mono (by first | omega | (simp; omega) | (simp; done))); obtain ⟨hcc, hfc⟩ := bcell hbc; have hzc := hbc.size; try simp at hzc; try (have hz0' : w.heap.size < wc.heap.size := (by omega)); try (have hz1' : w.heap.size + 1 < wc.heap.size := (by omega)); try (have hz2' : w.heap.size + 1 + 1 < wc.heap.size := (by omega))))
  go_ret2
  exact ⟨rfl, (by repeat (first | exact Below.refl _ _ | assumption | refine Below.drew ?_ | refine Below.alloc ?_ (by first | omega | (simp; omega) | (simp; done)) _ | refine Below.setCell ?_ (by first | omega | (simp; omega) | (simp; done)) _))⟩

set_option maxHeartbeats 8000000 in
theorem fUn_len (k p c : Int) (sv : Value) (n Ln : Nat) (cs : List Value) (w : World) (ho : Objs w) (h : Fit k p c) (hL : logN k p c = Ln) (hs : Sl w sv n cs) (hl : (n : Int) ≠ Ln) : Calls Tryd.prog 16 #[conf k p c, sv] w fun e w' => e = .returned (unE 2) ∧ Below w.heap.size w w' := by
  obtain ⟨a, cap, rfl, _⟩ := hs
  have hF := fitsB_yes h
  have HO := Lib.hid ho
  have CL : Hid (∀ w1, Objs w1 → Calls Tryd.prog 35 #[conf k p c] w1 fun e w' => e = .returned (.int .i64 (Ln : Int)) ∧ Below w1.heap.size w1 w') := Lib.hid (fun w1 h => hL ▸ fLogSize k p c w1)
  have hne : ((n : Int) != Ln) = true := by simpa using hl
  clear h ho hl hL
  go_enter Tryd.func16, Tryd.ntmps16
  go_wp2_with (first | (go_at_call 33; refine (fFits _ _ _ _).mono ?_; rintro e wcT1 ⟨rfl, hbc⟩; have T1 := one_call (one_start _ _ _ _) hbc; obtain ⟨c0, c1, c2, hs⟩ := one_cells T1; clear hbc))
  have HOc := Lib.hid (HO.out.below T1.1)
  have hrg := regrown_cell wcT1
  refine wp_region_quiet_below (by kernel_rfl) (by kernel_rfl) ?_
  repeat (quiet_step (exact Calls.regrown_of (CL.out _ (HOc.out.regrown _ _))))
  refine wpQuiet_nil ?_; intro wq hwq; obtain ⟨pq, hpq⟩ := hwq
  have hB : Below w.heap.size w wq := T1.1.trans ((hpq ▸ below_regrown _ _ _ : Below _ wcT1 wq).mono (by omega))
  clear hrg hpq
  go_wp2
  go_ret2
  exact ⟨rfl, hB⟩

theorem fUn_long (k p c : Int) (sv : Value) (n Ln : Nat) (x0 : Int) (xs : List Int) (w : World) (ho : Objs w) (h : Fit k p c) (hL : logN k p c = Ln) (hn : (n : Int) = Ln) (hs : Sl w sv n (u64s (x0 :: xs))) (hl : homeF k c + 2 * p < x0) : Calls Tryd.prog 16 #[conf k p c, sv] w fun e w' => e = .returned (unE 2) ∧ Below w.heap.size w w' := by
  obtain ⟨a, cap, rfl, hs⟩ := hs
  have hF := fitsB_yes h
  have HO := Lib.hid ho
  have hn0 : 0 < n := by have := logN_yes h; have := homeF_bd h; unfold Fit at h; omega
  have hm := homeF_bd h
  have hp16 : p ≤ 16 ∧ 1 ≤ p := by unfold Fit at h; omega
  have e1 : IntKind.u64.wrap (homeF k c + 2 * p) = homeF k c + 2 * p := wu64 (by omega) (by omega)
  have CL : Hid (∀ w1, Objs w1 → Calls Tryd.prog 35 #[conf k p c] w1 fun e w' => e = .returned (.int .i64 (Ln : Int)) ∧ Below w1.heap.size w1 w') := Lib.hid (fun w1 h => hL ▸ fLogSize k p c w1)
  have CM : Hid (∀ w1, Objs w1 → Calls Tryd.prog 34 #[conf k p c] w1 fun e w' => e = .returned (.int .i64 (homeF k c + 2 * p)) ∧ Below w1.heap.size w1 w') := Lib.hid (fun w1 h' => fMost k p c w1 h)
  obtain ⟨b, o, rfl, k1⟩ := Sl.at hs hn0
  have hbw0 : b < w.heap.size := by obtain ⟨b', o', e', h', _⟩ := hs hn0; cases e'; exact h'
  have K1 := Lib.hid (fun W hB => k1 W hB 0 (.int .u64 x0) rfl)
  have hne : ((n : Int) != Ln) = false := by simpa using hn
  clear h ho hL hs k1 hm hn
  go_enter Tryd.func16, Tryd.ntmps16
  go_wp2_with (first | (go_at_call 33; refine (fFits _ _ _ _).mono ?_; rintro e wcT1 ⟨rfl, hbc⟩; have T1 := one_call (one_start _ _ _ _) hbc; obtain ⟨c0, c1, c2, hs⟩ := one_cells T1; clear hbc))
  have HOc := Lib.hid (HO.out.below T1.1)
  have d0 : wcT1.cell? ⟨b, o, none⟩ = some (.int .u64 x0) := K1.out wcT1 T1.1
  have hbw : b < wcT1.heap.size := World.block_lt_of_cell? wcT1 _ d0
  have hrg := regrown_cell wcT1
  refine wp_region_quiet_below (by kernel_rfl) (by kernel_rfl) ?_
  repeat (quiet_step (first | exact Calls.regrown_of (CL.out _ (HOc.out.regrown _ _)) | exact Calls.regrown_of (CM.out _ (HOc.out.regrown _ _))))
  refine wpQuiet_nil ?_; intro wq hwq; obtain ⟨pq, hpq⟩ := hwq
  have hB : Below w.heap.size w wq := T1.1.trans ((hpq ▸ below_regrown _ _ _ : Below _ wcT1 wq).mono (by omega))
  clear hrg hpq
  go_wp2
  go_ret2
  exact ⟨rfl, hB⟩

set_option maxRecDepth 100000 in
set_option maxHeartbeats 8000000 in
theorem fUn_yes (k p c : Int) (sv : Value) (N Ln q : Nat) (ws : List Int) (w : World) (hNL : N = Ln) (ho : Objs w) (h : Fit k p c) (hL : logN k p c = Ln) (hn : ws.length = Ln) (h0 : ws.getD 0 0 = q) (hq : (q : Int) ≤ homeF k c + 2 * p) (hu : ∀ j, 0 ≤ ws.getD j 0 ∧ ws.getD j 0 ≤ 18446744073709551615) (hs : Sl w sv N (u64s ws)) :
    Calls Tryd.prog 16 #[conf k p c, sv] w fun e w' => ((UnOk k p c Ln ws q ∧ ∃ v, e = .returned (.tuple #[v, .int .i64 0]) ∧ w'.ownsRow w.heap.size 71 2 v q (wrs (unL ws q))) ∨ (¬ UnOk k p c Ln ws q ∧ e = .returned (unE 2))) ∧ Below w.heap.size w w' := by
  have HSV := Lib.hid hs
  obtain ⟨a, cap, rfl, hs⟩ := hs
  obtain ⟨i0, hi, hz0, hz1, hz2⟩ := info_parts write_info
  have hF := fitsB_yes h
  have HF := Lib.hid h
  have HO := Lib.hid ho
  have hLB := logN_yes h
  have hm := homeF_bd h
  have hp16 : p ≤ 16 ∧ 1 ≤ p := by unfold Fit at h; omega
  have hge : 1 + 2 * q ≤ Ln := by omega
  have hLm : Ln ≤ 2117 := by have := logN_bd k p c; omega
  have e1 : IntKind.u64.wrap (homeF k c + 2 * p) = homeF k c + 2 * p := wu64 (by omega) (by omega)
  have e2 : IntKind.i64.wrap (q : Int) = q := w64 (by omega) (by omega)
  have CL : Hid (∀ w1, Objs w1 → Calls Tryd.prog 35 #[conf k p c] w1 fun e w' => e = .returned (.int .i64 (Ln : Int)) ∧ Below w1.heap.size w1 w') := Lib.hid (fun w1 h => hL ▸ fLogSize k p c w1)
  have CM : Hid (∀ w1, Objs w1 → Calls Tryd.prog 34 #[conf k p c] w1 fun e w' => e = .returned (.int .i64 (homeF k c + 2 * p)) ∧ Below w1.heap.size w1 w') := Lib.hid (fun w1 h' => fMost k p c w1 h)
  obtain ⟨b, o, rfl, k1⟩ := Sl.at hs (by omega)
  have hbw0 : b < w.heap.size := by obtain ⟨b', o', e', h', _⟩ := hs (by omega); cases e'; exact h'
  have K1 := Lib.hid (show ∀ W, Below w.heap.size w W → ∀ j, j < Ln → W.cell? ⟨b, o + j, none⟩ = some (.int .u64 (ws.getD j 0)) from fun W hB j hj => k1 W hB j _ (by
    have hj' : j < ws.length := by omega
    simp [u64s, List.getD, hj']))
  have HN := Lib.hid hn
  have HNL := Lib.hid hNL
  have hne : ((N : Int) != Ln) = false := by simp [hNL]
  have hN0 : 0 < N := by omega
  have H0 := Lib.hid h0
  have HU := Lib.hid hu
  have HQ := Lib.hid hq
  have HL := Lib.hid hL
  have nq : ¬ (homeF k c + 2 * p < (q : Int)) := by omega
  clear h ho hL hs k1 hm hn h0 hu hLB hq hNL
  go_enter Tryd.func16, Tryd.ntmps16
  go_wp2_with (first | (go_at_call 33; refine (fFits _ _ _ _).mono ?_; rintro e wcT1 ⟨rfl, hbc⟩; have T1 := one_call (one_start _ _ _ _) hbc; obtain ⟨c0, c1, c2, hs⟩ := one_cells T1; clear hbc))
  have HOc := Lib.hid (HO.out.below T1.1)
  have d0 : wcT1.cell? ⟨b, o, none⟩ = some (.int .u64 q) := by have := K1.out wcT1 T1.1 0 (by omega); rw [H0.out] at this; exact this
  have hbw : b < wcT1.heap.size := World.block_lt_of_cell? wcT1 _ d0
  have hrg := regrown_cell wcT1
  refine wp_region_quiet_below (by kernel_rfl) (by kernel_rfl) ?_
  repeat (quiet_step (first | exact Calls.regrown_of (CL.out _ (HOc.out.regrown _ _)) | exact Calls.regrown_of (CM.out _ (HOc.out.regrown _ _))))
  refine wpQuiet_nil ?_; intro wq hwq; obtain ⟨pq, hpq⟩ := hwq
  have T2 := Lib.hid (one_call T1 (hpq ▸ below_regrown _ _ _ : Below _ wcT1 wq))
  have d1 : wq.cell? ⟨b, o, none⟩ = some (.int .u64 q) := by have := K1.out wq T2.out.1 0 (by omega); rw [H0.out] at this; exact this
  clear hrg hpq T1 HOc d0 hbw c0 c1 c2 hs
  go_wp2
  clear d1
  go_loopw [6, 7] (fun ov i wr => ∃ n : Nat, n ≤ q ∧ i = .int .i64 n ∧ Hid (UnPl k p c ws n) ∧ Hid (wr.ownsRow (w.heap.size + 1) 71 2 ov n (wrs (unL ws n))) ∧ Hid (One w wr k p c)) (fun _ i _ => q - (intOf i).toNat)
  case atStart => exact ⟨0, by omega, rfl, Lib.hid (fun i h => by omega), Lib.hid (World.ownsRow_nil _ _ _ _), Lib.hid T2.out⟩
  case round =>
    obtain ⟨n, hn, rfl, hpl, how, h1⟩ := hrel
    clear T2
    obtain ⟨c0, c1, c2, hz⟩ := one_cells h1.out
    obtain ⟨a4, cp4, rfl⟩ := owns_slice how.out
    have d0 : wr.cell? ⟨b, o, none⟩ = some (.int .u64 q) := by have := K1.out wr h1.out.1 0 (by omega); rw [H0.out] at this; exact this
    by_cases hlt : n = q
    · subst hlt
      have hlm : (n : Int) ≤ homeF k c + 2 * p := HQ.out
      have hsl := Lib.hid (sl_of_owns how.out)
      have hwf := unL_wf hpl.out (fun j => (HU.out j).1)
      have hun := unL_len ws n
      have HOr := Lib.hid (HO.out.below h1.out.1)
      by_cases hpk : PkOk k p c (unL ws n) n
      · have CP := Lib.hid (fPack_ok k p c _ (unL ws n) n wr hun HF.out hsl.out hlm hpk)
        have HPK := Lib.hid hpk
        have hL2 : (logN k p c).toNat = Ln := by rw [HL.out]; simp
        rw [hL2] at CP
        clear hpk hwf hun hlm hL2
        by_cases heq : packW Ln (unL ws n) = ws
        · have HE := Lib.hid heq
          clear heq
          have CE : Hid (∀ wp av cv, wp.ownsRow wr.heap.size 28 1 (.slice av Ln cv) Ln (u64s (packW Ln (unL ws n))) → Below w.heap.size w wp → Calls Tryd.prog 14 #[.slice av Ln cv, .slice (some ⟨b, o, none⟩) N cap] wp fun e w' => e = .returned (.bool true) ∧ Below wp.heap.size wp w') := Lib.hid (fun wp av cv hv hb => by
            have hlen := packW_len (L := Ln) (l := unL ws n) (by rw [unL_len]; omega)
            have h := words (.slice av Ln cv) (.slice (some ⟨b, o, none⟩) N cap) (packW Ln (unL ws n)) ws wp (by rw [hlen]; exact sl_of_owns hv) (by rw [HN.out, ← HNL.out]; exact HSV.out.below hb) (by rw [hlen]; omega)
            rw [show decide (packW Ln (unL ws n) = ws) = true from decide_eq_true HE.out] at h
            exact h)
          go_wp2_with (first | (go_at_call 8; refine (CP.out).mono ?_; rintro e wp ⟨⟨v, rfl, hv⟩, hbp⟩; obtain ⟨av, cv, rfl⟩ := owns_slice hv; have T3 := Lib.hid (one_call h1.out hbp); have HV := Lib.hid hv; have how3 := Lib.hid (owns_below how.out hbp); clear hbp hv) | (go_at_call 14; refine (CE.out _ _ _ HV.out T3.out.1).mono ?_; rintro e we ⟨rfl, hbe⟩; have T4 := Lib.hid (one_call T3.out hbe); have how4 := Lib.hid (owns_below how3.out hbe); clear hbe))
          go_ret2
          exact ⟨.inl ⟨⟨hpl.out, HPK.out, HE.out⟩, _, rfl, owns_base how4.out (Nat.le_succ _)⟩, T4.out.1⟩
        · have HE := Lib.hid heq
          clear heq
          have CE : Hid (∀ wp av cv, wp.ownsRow wr.heap.size 28 1 (.slice av Ln cv) Ln (u64s (packW Ln (unL ws n))) → Below w.heap.size w wp → Calls Tryd.prog 14 #[.slice av Ln cv, .slice (some ⟨b, o, none⟩) N cap] wp fun e w' => e = .returned (.bool false) ∧ Below wp.heap.size wp w') := Lib.hid (fun wp av cv hv hb => by
            have hlen := packW_len (L := Ln) (l := unL ws n) (by rw [unL_len]; omega)
            have h := words (.slice av Ln cv) (.slice (some ⟨b, o, none⟩) N cap) (packW Ln (unL ws n)) ws wp (by rw [hlen]; exact sl_of_owns hv) (by rw [HN.out, ← HNL.out]; exact HSV.out.below hb) (by rw [hlen]; omega)
            rw [show decide (packW Ln (unL ws n) = ws) = false from decide_eq_false HE.out] at h
            exact h)
          go_wp2_with (first | (go_at_call 8; refine (CP.out).mono ?_; rintro e wp ⟨⟨v, rfl, hv⟩, hbp⟩; obtain ⟨av, cv, rfl⟩ := owns_slice hv; have T3 := Lib.hid (one_call h1.out hbp); have HV := Lib.hid hv; have how3 := Lib.hid (owns_below how.out hbp); clear hbp hv) | (go_at_call 14; refine (CE.out _ _ _ HV.out T3.out.1).mono ?_; rintro e we ⟨rfl, hbe⟩; have T4 := Lib.hid (one_call T3.out hbe); have how4 := Lib.hid (owns_below how3.out hbe); clear hbe))
          go_ret2
          exact ⟨.inr ⟨fun h => HE.out h.2.2, rfl⟩, T4.out.1⟩
      · have CP : Hid (Calls Tryd.prog 8 #[conf k p c, .slice a4 n cp4] wr fun e w' => e = .returned (.tuple #[.slice none 0 0, .int .i64 1]) ∧ Below wr.heap.size wr w') := Lib.hid (fPack_bad k p c _ (unL ws n) n wr hun HF.out hsl.out hlm hpk)
        have HPK := Lib.hid hpk
        clear hpk hwf hun hlm
        go_wp2_with (first | (go_at_call 8; refine (CP.out).mono ?_; rintro e wp ⟨rfl, hbp⟩; have T3 := Lib.hid (one_call h1.out hbp); clear hbp))
        go_ret2
        exact ⟨.inr ⟨fun h => HPK.out h.2.1, rfl⟩, T3.out.1⟩
    · have hn' : n < q := by omega
      clear hn hlt
      obtain ⟨x1, hx1⟩ : ∃ x, x = ws.getD (1 + 2 * n) 0 := ⟨_, rfl⟩
      obtain ⟨x2, hx2⟩ : ∃ x, x = ws.getD (2 + 2 * n) 0 := ⟨_, rfl⟩
      have d1 : wr.cell? ⟨b, o + (1 + 2 * n), none⟩ = some (.int .u64 x1) := by rw [hx1]; exact K1.out wr h1.out.1 _ (by omega)
      have d2 : wr.cell? ⟨b, o + (2 + 2 * n), none⟩ = some (.int .u64 x2) := by rw [hx2]; exact K1.out wr h1.out.1 _ (by omega)
      have hbw : b < wr.heap.size := World.block_lt_of_cell? wr _ d1
      have t1 : ((1 : Int) + 2 * (n : Int)).toNat = 1 + 2 * n := by omega
      have t2 : ((2 : Int) + 2 * (n : Int)).toNat = 2 + 2 * n := by omega
      have l1 : (0 : Int) ≤ 1 + 2 * (n : Int) := by omega
      have l2 : (0 : Int) ≤ 2 + 2 * (n : Int) := by omega
      have l3 : (1 : Int) + 2 * (n : Int) < N := by have := HNL.out; omega
      have l4 : (2 : Int) + 2 * (n : Int) < N := by have := HNL.out; omega
      have r0 : IntKind.i64.wrap (2 * (n : Int)) = 2 * n := w64 (by omega) (by omega)
      have r1 : IntKind.i64.wrap (1 + 2 * (n : Int)) = 1 + 2 * n := w64 (by omega) (by omega)
      have r2 : IntKind.i64.wrap (2 + 2 * (n : Int)) = 2 + 2 * n := w64 (by omega) (by omega)
      have HOr := Lib.hid (HO.out.below h1.out.1)
      have bx1 : 0 ≤ x1 ∧ x1 ≤ 18446744073709551615 := hx1 ▸ HU.out (1 + 2 * n)
      have CP0 := Lib.hid (fun w1 (_ : Objs w1) => fPlace k p c x1 w1 bx1.1 bx1.2)
      have HX1 := Lib.hid hx1
      have HX2 := Lib.hid hx2
      clear hx1 hx2
      cases hpb : placeB k p c x1 with
      | false =>
        have CP : Hid (∀ w1, Objs w1 → Calls Tryd.prog 12 #[conf k p c, .int .u64 x1] w1 fun e w' => e = .returned (.tuple #[.int .i64 0, .bool false]) ∧ Below w1.heap.size w1 w') := Lib.hid (fun w1 h => by have := CP0.out w1 h; rw [hpb] at this; exact this)
        have HP := Lib.hid hpb
        clear CP0 hpb
        go_wp2
        have hrg := regrown_cell wr
        refine wp_region_quiet_below (by kernel_rfl) (by kernel_rfl) ?_
        repeat (quiet_step (exact Calls.regrown_of (CP.out _ (HOr.out.regrown _ _))))
        refine wpQuiet_nil ?_; intro wq hwq; obtain ⟨pq, hpq⟩ := hwq
        have hB : Below w.heap.size w wq := h1.out.1.trans ((hpq ▸ below_regrown _ _ _ : Below _ wr wq).mono (by omega))
        clear hrg hpq
        go_wp2
        go_ret2
        exact ⟨.inr ⟨fun h => (by have := h.1 n hn'; rw [← HX1.out, HP.out] at this; cases this), rfl⟩, hB⟩
      | true =>
        have CP : Hid (∀ w1, Objs w1 → Calls Tryd.prog 12 #[conf k p c, .int .u64 x1] w1 fun e w' => e = .returned (.tuple #[.int .i64 x1, .bool true]) ∧ Below w1.heap.size w1 w') := Lib.hid (fun w1 h => by have := CP0.out w1 h; rw [hpb] at this; exact this)
        have HP := Lib.hid hpb
        clear CP0 hpb
        go_wp2
        have hrg := regrown_cell wr
        refine wp_region_quiet_below (by kernel_rfl) (by kernel_rfl) ?_
        repeat (quiet_step (exact Calls.regrown_of (CP.out _ (HOr.out.regrown _ _))))
        refine wpQuiet_nil ?_; intro wq hwq; obtain ⟨pq, hpq⟩ := hwq
        have hbq : Below wr.heap.size wr wq := (hpq ▸ below_regrown _ _ _ : Below _ wr wq)
        have h2 := Lib.hid (one_call h1.out hbq)
        have how2 := Lib.hid (owns_below how.out hbq)
        have d3 : wq.cell? ⟨b, o + (2 + 2 * n), none⟩ = some (.int .u64 x2) := by rw [HX2.out]; exact K1.out wq h2.out.1 _ (by omega)
        have hzq := (one_cells h2.out).2.2.2
        clear hrg hpq h1 how c0 c1 c2 hz d1 d2 hbw hbq HOr
        go_wp2_with (first | (at_builtin; refine wpList_append_own _ rfl (.tmp 50) (.tmp 59) 26 (by rfl) (w.heap.size + 1) 71 i0 _ 2 16 under_writes hi hz0 hz1 hz2 rfl (by decide) _ _ _ (by rfl) (how2.out.alloc _) ⟨wq.heap.size, 0, none⟩ 1 1 [.int .i64 x1, .int .u64 x2] (by rfl) (by rfl) (World.news_of_block (World.alloc_heap_new wq _)) (by intro u hu; simp at hu; rcases hu with rfl | rfl <;> rfl) (by unfold maxLen; omega) (by omega) (by simp; omega) ?_; intro v9 w9 hown9 hg9 _))
        have R1 := Lib.hid (show w9.ownsRow (w.heap.size + 1) 71 2 v9 (n + 1) (wrs (unL ws (n + 1))) from by rw [unL_succ, wrs_append, ← HX1.out, ← HX2.out]; exact hown9)
        have R2 := Lib.hid (one_grown (one_call h2.out (blk_alloc _ _)) hg9 (fun r hr => by have := (how2.out.lt r hr).1; omega))
        have R3 := Lib.hid (hpl.out.succ (HX1.out ▸ HP.out))
        clear hown9 hg9
        go_roundw
        case rel => exact ⟨n + 1, by omega, by go_num, R3, R1, R2⟩
        case measure => simp [intOf]; omega

end Go.Proofs.YthigfjelgbdcfaaDoor
