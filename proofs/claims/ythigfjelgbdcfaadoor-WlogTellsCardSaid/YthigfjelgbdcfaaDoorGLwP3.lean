/- A part of the law's walk: the lists that are tried. -/
import Derived.Test.YthigfjelgbdcfaaDoorGLwBase

set_option linter.unusedSimpArgs false
set_option linter.unusedVariables false

namespace Go.Proofs.YthigfjelgbdcfaaDoor
open Go.RowKit Go.Maps

set_option linter.unusedSimpArgs false in
set_option linter.unusedVariables false in
set_option maxRecDepth 1000000 in
set_option maxHeartbeats 8000000 in
theorem law_unpacks {c0 c1 c2 c3 c5 c6 c7 c8 c9 c10 c11 c12 c13 c14 c15 c16 c17 c18 c19 c20 c21 c22 c23 c24 c25 c27 c29 c30 c31 c33 c34 c35 c36 c37 c38 c39 c40 c41 c42 c43 c44 c45 c46 c47 c48 c49 c50 c51 c52 c53 c54 c55 c56 c57 c58 c59 c60 c61 c62 c63 c64 c65 c66 c67 c68 c69 c70 c71 c72 c73 c74 c75 c76 c77 c78 c79 c80 c81 c82 c83 c84 c85 c86 c87 c88 c89 c90 c91 c92 c93 c94 c95 c96 c97 c98 c99 c100 c101 c102 c103 c104 c105 c106 c107 c108 c109 c110 c111 c112 c113 c114 c115 c116 c117 c118 c119 c120 c121 c122 c123 c124 c125 c126 c127 c128 c129 c130 c131 c132 c133 c134 c135 c136 c137 c138 c139 c140 c141 c142 c143 c144 c145 c146 c147 c148 c149 c150 c151 c152 c153 c154 c155 c156 c157 c158 c159 c160 c161 c162 c163 c164 c165 c166 c167 c168 c169 c170 c171 c172 c173 c174 c175 c176 c177 c178 c179 c180 c181 c182 c183 c184 c185 c186 c187 c188 c189 c190 c191 c192 c193 c194 c195 c196 c197 c198 c199 c200 c201 c202 c203 c204 c205 c206 c207 c208 c209 c210 c211 c212 c213 c214 c215 c216 c217 c218 c219 c220 c221 c222 c223 c224 c225 c226 c227 c228 c229 c230 c231 c232 c233 c234 c235 c236 c237 c238 c239 c240 c241 c242 c243 c244 c245 c246 c247 c248 c249 c250 c251 c252 c253 c254 c255 c256 c257 c258 c259 c260 c261 c262 c263 c264 c265 c266 c267 c268 c269 c270 c271 c272 c273 c274 c275 c276 c277 c278 c279 c280 c281 c282 c283 c284 c285 c286 c287 c288 c289 c290 c291 c292 c293 c294 c295 c296 c297 c298 c299 c300 c301 c302 c303 c304 c305 c306 c307 c308 c309 c310 c311 c312 c313 c314 c315 c316 c317 c318 c319 c320 c321 c322 c323 c324 c325 c326 c327 c328 c329 c330 c331 c332 c333 c334 c335 c336 c337 c338 c339 c340 c341 c342 c343 c344 c345 c346 c347 c348 c349 c350 c351 c352 c353 c354 c355 c356 c357 c358 c359 c360 c361 c362 c363 : Value} (k p c : Int) (ay ax az : Option Addr) (na nx nz cay cx cz : Nat) (X Y Z : List Int) (bd : Nat) (w : World) (ho : Objs w) (hd : w.heap[bd]? = some (.cells #[.int .i64 k, .int .i64 p, .int .i64 c] 24)) (hx : Sl w (.slice ax nx cx) nx (u64s X)) (hX : X.length = nx) (hXw : WordsOk X) (hz : Sl w (.slice az nz cz) nz (u64s Z)) (hZ : Z.length = nz) (hZw : WordsOk Z) (hy : Sl w (.slice ay na cay) na (u64s Y)) (hY : Y.length = na) (hYw : WordsOk Y) (hna : na ≤ 9223372036854775807) (hcay : na ≤ cay)
    (K : Act → World → Prop) (Q' : Exit → Act → World → Prop) (hK : ∀ (e22 e46 e47 e48 e49 e50 e194 e195 e196 e197 e198 e199 e200 e201 e202 e203 e204 e205 e206 e207 e208 e209 e210 e211 e212 e213 e214 e215 e216 e217 e218 e219 e220 e221 e222 e223 e224 e225 e226 e227 e228 : Value) (w' : World), Below w.heap.size w w' → K { tmps := #[c0, c1, c2, c3, .slice ay na cay, c5, c6, c7, c8, c9, c10, c11, c12, c13, c14, c15, c16, c17, c18, c19, c20, c21, e22, c23, c24, c25, .slice ax nx cx, c27, .slice az nz cz, c29, c30, c31, .pointer (some ⟨bd, 0, none⟩), c33, c34, c35, c36, c37, c38, c39, c40, c41, c42, c43, c44, c45, e46, e47, e48, e49, e50, c51, c52, c53, c54, c55, c56, c57, c58, c59, c60, c61, c62, c63, c64, c65, c66, c67, c68, c69, c70, c71, c72, c73, c74, c75, c76, c77, c78, c79, c80, c81, c82, c83, c84, c85, c86, c87, c88, c89, c90, c91, c92, c93, c94, c95, c96, c97, c98, c99, c100, c101, c102, c103, c104, c105, c106, c107, c108, c109, c110, c111, c112, c113, c114, c115, c116, c117, c118, c119, c120, c121, c122, c123, c124, c125, c126, c127, c128, c129, c130, c131, c132, c133, c134, c135, c136, c137, c138, c139, c140, c141, c142, c143, c144, c145, c146, c147, c148, c149, c150, c151, c152, c153, c154, c155, c156, c157, c158, c159, c160, c161, c162, c163, c164, c165, c166, c167, c168, c169, c170, c171, c172, c173, c174, c175, c176, c177, c178, c179, c180, c181, c182, c183, c184, c185, c186, c187, c188, c189, c190, c191, c192, c193, e194, e195, e196, e197, e198, e199, e200, e201, e202, e203, e204, e205, e206, e207, e208, e209, e210, e211, e212, e213, e214, e215, e216, e217, e218, e219, e220, e221, e222, e223, e224, e225, e226, e227, e228, c229, c230, c231, c232, c233, c234, c235, c236, c237, c238, c239, c240, c241, c242, c243, c244, c245, c246, c247, c248, c249, c250, c251, c252, c253, c254, c255, c256, c257, c258, c259, c260, c261, c262, c263, c264, c265, c266, c267, c268, c269, c270, c271, c272, c273, c274, c275, c276, c277, c278, c279, c280, c281, c282, c283, c284, c285, c286, c287, c288, c289, c290, c291, c292, c293, c294, c295, c296, c297, c298, c299, c300, c301, c302, c303, c304, c305, c306, c307, c308, c309, c310, c311, c312, c313, c314, c315, c316, c317, c318, c319, c320, c321, c322, c323, c324, c325, c326, c327, c328, c329, c330, c331, c332, c333, c334, c335, c336, c337, c338, c339, c340, c341, c342, c343, c344, c345, c346, c347, c348, c349, c350, c351, c352, c353, c354, c355, c356, c357, c358, c359, c360, c361, c362, c363], defers := [] } w') :
    Code.wp Tryd.prog lawA4 (Exit.then K Q') { tmps := #[c0, c1, c2, c3, .slice ay na cay, c5, c6, c7, c8, c9, c10, c11, c12, c13, c14, c15, c16, c17, c18, c19, c20, c21, c22, c23, c24, c25, .slice ax nx cx, c27, .slice az nz cz, c29, c30, c31, .pointer (some ⟨bd, 0, none⟩), c33, c34, c35, c36, c37, c38, c39, c40, c41, c42, c43, c44, c45, c46, c47, c48, c49, c50, c51, c52, c53, c54, c55, c56, c57, c58, c59, c60, c61, c62, c63, c64, c65, c66, c67, c68, c69, c70, c71, c72, c73, c74, c75, c76, c77, c78, c79, c80, c81, c82, c83, c84, c85, c86, c87, c88, c89, c90, c91, c92, c93, c94, c95, c96, c97, c98, c99, c100, c101, c102, c103, c104, c105, c106, c107, c108, c109, c110, c111, c112, c113, c114, c115, c116, c117, c118, c119, c120, c121, c122, c123, c124, c125, c126, c127, c128, c129, c130, c131, c132, c133, c134, c135, c136, c137, c138, c139, c140, c141, c142, c143, c144, c145, c146, c147, c148, c149, c150, c151, c152, c153, c154, c155, c156, c157, c158, c159, c160, c161, c162, c163, c164, c165, c166, c167, c168, c169, c170, c171, c172, c173, c174, c175, c176, c177, c178, c179, c180, c181, c182, c183, c184, c185, c186, c187, c188, c189, c190, c191, c192, c193, c194, c195, c196, c197, c198, c199, c200, c201, c202, c203, c204, c205, c206, c207, c208, c209, c210, c211, c212, c213, c214, c215, c216, c217, c218, c219, c220, c221, c222, c223, c224, c225, c226, c227, c228, c229, c230, c231, c232, c233, c234, c235, c236, c237, c238, c239, c240, c241, c242, c243, c244, c245, c246, c247, c248, c249, c250, c251, c252, c253, c254, c255, c256, c257, c258, c259, c260, c261, c262, c263, c264, c265, c266, c267, c268, c269, c270, c271, c272, c273, c274, c275, c276, c277, c278, c279, c280, c281, c282, c283, c284, c285, c286, c287, c288, c289, c290, c291, c292, c293, c294, c295, c296, c297, c298, c299, c300, c301, c302, c303, c304, c305, c306, c307, c308, c309, c310, c311, c312, c313, c314, c315, c316, c317, c318, c319, c320, c321, c322, c323, c324, c325, c326, c327, c328, c329, c330, c331, c332, c333, c334, c335, c336, c337, c338, c339, c340, c341, c342, c343, c344, c345, c346, c347, c348, c349, c350, c351, c352, c353, c354, c355, c356, c357, c358, c359, c360, c361, c362, c363], defers := [] } w := by
  have HK := Lib.hid hK
  have HO := Lib.hid ho
  have HD := Lib.hid hd
  have HXs := Lib.hid hx
  have HYs := Lib.hid hy
  have HZs := Lib.hid hz
  clear hK ho hd hx hy hz
  conv => arg 2; whnf
  by_cases hn30 : na ≤ 100
  · go_wp2_with fail
    obtain ⟨W1, hW1⟩ : ∃ W1, w.alloc (.cells #[.slice ax nx cx, .slice az nz cz, .slice ay na cay] 27) = W1 := ⟨_, rfl⟩
    have hB1 : Below w.heap.size w W1 := by rw [← hW1]; exact blk_alloc _ _
    obtain ⟨b1, hb1⟩ : ∃ b1, w.heap.size = b1 := ⟨_, rfl⟩
    have z1 : W1.heap[b1]? = some (.cells #[.slice ax nx cx, .slice az nz cz, .slice ay na cay] 27 (0, 0)) := by rw [← hW1, ← hb1]; exact World.alloc_heap_new _ _
    have HL : Hid (∀ j : Nat, j < 3 → ∀ W, Below W1.heap.size W1 W → ∃ a n cp X, W.cell? ⟨b1, j, none⟩ = some (.slice a n cp) ∧ Sl W (.slice a n cp) n (u64s X) ∧ X.length = n ∧ WordsOk X) := Lib.hid (fun j hj W hB => by
      have hb := (hB.block b1 (Array.getElem?_eq_some_iff.1 z1).1).trans z1
      rcases (show j = 0 ∨ j = 1 ∨ j = 2 by omega) with rfl | rfl | rfl
      · exact ⟨_, _, _, X, blk_cell hb rfl, (HXs.out.below hB1).below hB, hX, hXw⟩
      · exact ⟨_, _, _, Z, blk_cell hb rfl, (HZs.out.below hB1).below hB, hZ, hZw⟩
      · exact ⟨_, _, _, Y.take na, blk_cell hb rfl, ((sl_take HYs.out (by omega) (u64s_take Y na)).below hB1).below hB, by rw [List.length_take]; omega, fun x hx => hYw x (List.mem_of_mem_take hx)⟩)
    clear hX hXw hZ hZw hYw hY
    have HB1 := Lib.hid hB1
    have hbd := (Array.getElem?_eq_some_iff.1 HD.out).1
    rw [hW1, hb1]
    have HBS := Lib.hid hb1
    clear hB1 hW1 z1 hb1
    go_loopw [203] (fun i wr => ∃ j : Nat, j ≤ 3 ∧ i = .int .i64 j ∧ Hid (Below W1.heap.size W1 wr)) (fun i _ => 3 - (intOf i).toNat)
    case atStart => exact ⟨0, by omega, rfl, Lib.hid (Below.refl _ _)⟩
    case round =>
      obtain ⟨j, hj, rfl, hB⟩ := hrel
      have HBw := Lib.hid (HB1.out.trans (hB.out.mono HB1.out.size))
      by_cases hlt : j = 3
      · subst hlt
        go_wp2
        exact HK.out _ _ _ _ _ _ _ _ _ _ _ _ _ _ _ _ _ _ _ _ _ _ _ _ _ _ _ _ _ _ _ _ _ _ _ _ _ _ _ _ _ _ HBw.out
      · have hj2 : j < 3 := by omega
        have hbox := (HBw.out.block bd (by omega)).trans HD.out
        have d0 := blk_cell hbox (i := 0) (v := .int .i64 k) rfl
        have d1 := blk_cell hbox (i := 1) (v := .int .i64 p) rfl
        have d2 := blk_cell hbox (i := 2) (v := .int .i64 c) rfl
        obtain ⟨a, n, cp, X', hz, hSl, hXl, hXw⟩ := HL.out j hj2 wr hB.out
        have HSl := Lib.hid hSl
        obtain ⟨R, hR⟩ : ∃ R, unR k p c X' = R := ⟨_, rfl⟩
        have hRl : R.1.length ≤ 1000000000 := hR ▸ unR_len k p c X'
        have C1 := Lib.hid (show ∀ W, Below w.heap.size w W → Below wr.heap.size wr W → Calls Tryd.prog 15 #[conf k p c, .slice a n cp] W (UnPost W R) from fun W hW hW2 => hR ▸ wUn k p c _ X' n W (HO.out.below hW) hXl (HSl.out.below hW2) hXw)
        have C2 := Lib.hid (show ∀ W, Below w.heap.size w W → Below wr.heap.size wr W → Calls Tryd.prog 16 #[conf k p c, .slice a n cp] W (UnPost W R) from fun W hW hW2 => hR ▸ fUn k p c _ X' n W (HO.out.below hW) hXl (HSl.out.below hW2) hXw)
        obtain ⟨xs, er⟩ := R
        have HRl := Lib.hid hRl
        have HBx := HBw
        have HB0 := hB
        clear hR hlt hj hbox hSl hXl hXw hRl
        go_wp2_with (first | (go_at_call 15; refine (C1.out _ HBw.out (Below.refl _ _)).mono ?_; rintro e w1 ⟨v1, rfl, hv, hb⟩; obtain ⟨a1, cp1, rfl⟩ := owns_slice hv; have V1 := Lib.hid (sl_of_owns hv); have HX1 := Lib.hid hb; have HB1 := Lib.hid (HB0.out.trans (hb.mono HB0.out.size)); have HBx := Lib.hid (HBx.out.trans (hb.mono HBx.out.size)); have hbox := (HBx.out.block bd (by omega)).trans HD.out; have hbw := (Array.getElem?_eq_some_iff.1 hbox).1; have d0 := blk_cell hbox (i := 0) (v := .int .i64 k) rfl; have d1 := blk_cell hbox (i := 1) (v := .int .i64 p) rfl; have d2 := blk_cell hbox (i := 2) (v := .int .i64 c) rfl; clear hb hbox; clear hv) | (go_at_call 16; refine (C2.out _ HBx.out HX1.out).mono ?_; rintro e w2 ⟨v2, rfl, hv, hb⟩; obtain ⟨a2, cp2, rfl⟩ := owns_slice hv; have V2 := Lib.hid (sl_of_owns hv); have V1 := Lib.hid (V1.out.below hb); have HB2 := Lib.hid (HB1.out.trans (hb.mono HB1.out.size)); have HBx := Lib.hid (HBx.out.trans (hb.mono HBx.out.size)); have hbox := (HBx.out.block bd (by omega)).trans HD.out; have hbw := (Array.getElem?_eq_some_iff.1 hbox).1; have d0 := blk_cell hbox (i := 0) (v := .int .i64 k) rfl; have d1 := blk_cell hbox (i := 1) (v := .int .i64 p) rfl; have d2 := blk_cell hbox (i := 2) (v := .int .i64 c) rfl; clear hb hbox; clear hv) | (go_at_call 17; have CWo := writes _ _ _ _ w2 V1.out V2.out HRl.out; rw [show decide (xs = xs) = true from decide_eq_true rfl] at CWo; refine CWo.mono ?_; rintro e w3 ⟨rfl, hb⟩; have HB3 := Lib.hid (HB2.out.trans (hb.mono HB2.out.size)); have HBx := Lib.hid (HBx.out.trans (hb.mono HBx.out.size)); have hbox := (HBx.out.block bd (by omega)).trans HD.out; have hbw := (Array.getElem?_eq_some_iff.1 hbox).1; have d0 := blk_cell hbox (i := 0) (v := .int .i64 k) rfl; have d1 := blk_cell hbox (i := 1) (v := .int .i64 p) rfl; have d2 := blk_cell hbox (i := 2) (v := .int .i64 c) rfl; clear hb hbox; clear CWo))
        go_roundw
        case rel => exact ⟨j + 1, by omega, by go_num, HB3⟩
        case measure => simp [intOf]; omega
  · go_wp2_with fail
    obtain ⟨W1, hW1⟩ : ∃ W1, w.alloc (.cells #[.slice ax nx cx, .slice az nz cz, .slice ay 100 cay] 27) = W1 := ⟨_, rfl⟩
    have hB1 : Below w.heap.size w W1 := by rw [← hW1]; exact blk_alloc _ _
    obtain ⟨b1, hb1⟩ : ∃ b1, w.heap.size = b1 := ⟨_, rfl⟩
    have z1 : W1.heap[b1]? = some (.cells #[.slice ax nx cx, .slice az nz cz, .slice ay 100 cay] 27 (0, 0)) := by rw [← hW1, ← hb1]; exact World.alloc_heap_new _ _
    have HL : Hid (∀ j : Nat, j < 3 → ∀ W, Below W1.heap.size W1 W → ∃ a n cp X, W.cell? ⟨b1, j, none⟩ = some (.slice a n cp) ∧ Sl W (.slice a n cp) n (u64s X) ∧ X.length = n ∧ WordsOk X) := Lib.hid (fun j hj W hB => by
      have hb := (hB.block b1 (Array.getElem?_eq_some_iff.1 z1).1).trans z1
      rcases (show j = 0 ∨ j = 1 ∨ j = 2 by omega) with rfl | rfl | rfl
      · exact ⟨_, _, _, X, blk_cell hb rfl, (HXs.out.below hB1).below hB, hX, hXw⟩
      · exact ⟨_, _, _, Z, blk_cell hb rfl, (HZs.out.below hB1).below hB, hZ, hZw⟩
      · exact ⟨_, _, _, Y.take 100, blk_cell hb rfl, ((sl_take HYs.out (by omega) (u64s_take Y 100)).below hB1).below hB, by rw [List.length_take]; omega, fun x hx => hYw x (List.mem_of_mem_take hx)⟩)
    clear hX hXw hZ hZw hYw hY
    have HB1 := Lib.hid hB1
    have hbd := (Array.getElem?_eq_some_iff.1 HD.out).1
    rw [hW1, hb1]
    have HBS := Lib.hid hb1
    clear hB1 hW1 z1 hb1
    go_loopw [203] (fun i wr => ∃ j : Nat, j ≤ 3 ∧ i = .int .i64 j ∧ Hid (Below W1.heap.size W1 wr)) (fun i _ => 3 - (intOf i).toNat)
    case atStart => exact ⟨0, by omega, rfl, Lib.hid (Below.refl _ _)⟩
    case round =>
      obtain ⟨j, hj, rfl, hB⟩ := hrel
      have HBw := Lib.hid (HB1.out.trans (hB.out.mono HB1.out.size))
      by_cases hlt : j = 3
      · subst hlt
        go_wp2
        exact HK.out _ _ _ _ _ _ _ _ _ _ _ _ _ _ _ _ _ _ _ _ _ _ _ _ _ _ _ _ _ _ _ _ _ _ _ _ _ _ _ _ _ _ HBw.out
      · have hj2 : j < 3 := by omega
        have hbox := (HBw.out.block bd (by omega)).trans HD.out
        have d0 := blk_cell hbox (i := 0) (v := .int .i64 k) rfl
        have d1 := blk_cell hbox (i := 1) (v := .int .i64 p) rfl
        have d2 := blk_cell hbox (i := 2) (v := .int .i64 c) rfl
        obtain ⟨a, n, cp, X', hz, hSl, hXl, hXw⟩ := HL.out j hj2 wr hB.out
        have HSl := Lib.hid hSl
        obtain ⟨R, hR⟩ : ∃ R, unR k p c X' = R := ⟨_, rfl⟩
        have hRl : R.1.length ≤ 1000000000 := hR ▸ unR_len k p c X'
        have C1 := Lib.hid (show ∀ W, Below w.heap.size w W → Below wr.heap.size wr W → Calls Tryd.prog 15 #[conf k p c, .slice a n cp] W (UnPost W R) from fun W hW hW2 => hR ▸ wUn k p c _ X' n W (HO.out.below hW) hXl (HSl.out.below hW2) hXw)
        have C2 := Lib.hid (show ∀ W, Below w.heap.size w W → Below wr.heap.size wr W → Calls Tryd.prog 16 #[conf k p c, .slice a n cp] W (UnPost W R) from fun W hW hW2 => hR ▸ fUn k p c _ X' n W (HO.out.below hW) hXl (HSl.out.below hW2) hXw)
        obtain ⟨xs, er⟩ := R
        have HRl := Lib.hid hRl
        have HBx := HBw
        have HB0 := hB
        clear hR hlt hj hbox hSl hXl hXw hRl
        go_wp2_with (first | (go_at_call 15; refine (C1.out _ HBw.out (Below.refl _ _)).mono ?_; rintro e w1 ⟨v1, rfl, hv, hb⟩; obtain ⟨a1, cp1, rfl⟩ := owns_slice hv; have V1 := Lib.hid (sl_of_owns hv); have HX1 := Lib.hid hb; have HB1 := Lib.hid (HB0.out.trans (hb.mono HB0.out.size)); have HBx := Lib.hid (HBx.out.trans (hb.mono HBx.out.size)); have hbox := (HBx.out.block bd (by omega)).trans HD.out; have hbw := (Array.getElem?_eq_some_iff.1 hbox).1; have d0 := blk_cell hbox (i := 0) (v := .int .i64 k) rfl; have d1 := blk_cell hbox (i := 1) (v := .int .i64 p) rfl; have d2 := blk_cell hbox (i := 2) (v := .int .i64 c) rfl; clear hb hbox; clear hv) | (go_at_call 16; refine (C2.out _ HBx.out HX1.out).mono ?_; rintro e w2 ⟨v2, rfl, hv, hb⟩; obtain ⟨a2, cp2, rfl⟩ := owns_slice hv; have V2 := Lib.hid (sl_of_owns hv); have V1 := Lib.hid (V1.out.below hb); have HB2 := Lib.hid (HB1.out.trans (hb.mono HB1.out.size)); have HBx := Lib.hid (HBx.out.trans (hb.mono HBx.out.size)); have hbox := (HBx.out.block bd (by omega)).trans HD.out; have hbw := (Array.getElem?_eq_some_iff.1 hbox).1; have d0 := blk_cell hbox (i := 0) (v := .int .i64 k) rfl; have d1 := blk_cell hbox (i := 1) (v := .int .i64 p) rfl; have d2 := blk_cell hbox (i := 2) (v := .int .i64 c) rfl; clear hb hbox; clear hv) | (go_at_call 17; have CWo := writes _ _ _ _ w2 V1.out V2.out HRl.out; rw [show decide (xs = xs) = true from decide_eq_true rfl] at CWo; refine CWo.mono ?_; rintro e w3 ⟨rfl, hb⟩; have HB3 := Lib.hid (HB2.out.trans (hb.mono HB2.out.size)); have HBx := Lib.hid (HBx.out.trans (hb.mono HBx.out.size)); have hbox := (HBx.out.block bd (by omega)).trans HD.out; have hbw := (Array.getElem?_eq_some_iff.1 hbox).1; have d0 := blk_cell hbox (i := 0) (v := .int .i64 k) rfl; have d1 := blk_cell hbox (i := 1) (v := .int .i64 p) rfl; have d2 := blk_cell hbox (i := 2) (v := .int .i64 c) rfl; clear hb hbox; clear CWo))
        go_roundw
        case rel => exact ⟨j + 1, by omega, by go_num, HB3⟩
        case measure => simp [intOf]; omega

end Go.Proofs.YthigfjelgbdcfaaDoor
