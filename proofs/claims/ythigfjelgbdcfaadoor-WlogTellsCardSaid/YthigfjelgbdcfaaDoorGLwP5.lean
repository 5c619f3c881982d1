/- A part of the law's walk: Wipe and Lay of one memory. -/
import Derived.Test.YthigfjelgbdcfaaDoorGLwBase

set_option linter.unusedSimpArgs false
set_option linter.unusedVariables false

namespace Go.Proofs.YthigfjelgbdcfaaDoor
open Go.RowKit Go.Maps

set_option linter.unusedSimpArgs false in
set_option linter.unusedVariables false in
set_option maxRecDepth 1000000 in
set_option maxHeartbeats 8000000 in
theorem law_mem {c0 c1 c2 c3 c4 c5 c6 c7 c8 c9 c10 c11 c12 c13 c14 c15 c16 c17 c18 c19 c20 c21 c22 c23 c24 c25 c26 c27 c28 c29 c30 c31 c33 c34 c35 c36 c37 c38 c39 c40 c41 c42 c43 c44 c45 c46 c47 c48 c49 c50 c51 c52 c53 c54 c55 c56 c57 c58 c59 c61 c62 c63 c64 c65 c66 c67 c68 c69 c70 c71 c72 c73 c74 c75 c76 c77 c78 c79 c80 c81 c82 c83 c84 c85 c86 c87 c88 c89 c90 c91 c92 c93 c94 c95 c96 c97 c98 c99 c100 c101 c102 c103 c104 c105 c106 c107 c108 c109 c110 c111 c112 c113 c114 c115 c116 c117 c118 c119 c120 c121 c122 c123 c124 c125 c126 c127 c128 c129 c130 c131 c132 c133 c134 c135 c136 c137 c138 c139 c140 c141 c142 c143 c144 c145 c146 c147 c148 c149 c150 c151 c152 c153 c154 c155 c156 c157 c158 c159 c160 c161 c162 c163 c164 c165 c166 c167 c168 c169 c170 c171 c172 c173 c174 c175 c176 c177 c178 c179 c180 c181 c182 c183 c184 c185 c186 c187 c188 c189 c190 c191 c192 c193 c194 c195 c196 c197 c198 c199 c200 c201 c202 c203 c204 c205 c206 c207 c208 c209 c210 c211 c212 c213 c214 c215 c216 c217 c218 c219 c220 c221 c222 c223 c224 c225 c226 c227 c228 c229 c230 c231 c232 c233 c234 c235 c236 c237 c238 c239 c240 c241 c242 c243 c244 c245 c246 c247 c248 c249 c250 c251 c252 c253 c254 c255 c256 c257 c258 c259 c260 c261 c262 c263 c264 c265 c266 c267 c268 c269 c270 c271 c272 c273 c274 c275 c276 c277 c278 c279 c280 c281 c282 c283 c284 c285 c286 c287 c288 c289 c290 c291 c292 c293 c294 c295 c296 c297 c298 c299 c300 c301 c302 c303 c304 c305 c309 c310 c311 c312 c313 c314 c315 c316 c317 c318 c319 c320 c321 c322 c323 c324 c325 c326 c327 c328 c329 c330 c331 c332 c333 c334 c335 c336 c337 c338 c339 c340 c341 c342 c343 c344 c345 c346 c347 c348 c349 c350 c351 c352 c353 c354 c355 c356 c357 c358 c359 c360 c361 c362 c363 : Value} (k p c p_ q_ : Int) (bd bY n cap : Nat) (a : Option Addr) (M : List (Int × Int)) (b1 : Nat) (w : World) (z1 : w.heap[b1]? = some (.cells #[.int .i64 p_, .int .i64 q_] 3 (0, 0))) (ho : Objs w) (hd : w.heap[bd]? = some (.cells #[.int .i64 k, .int .i64 p, .int .i64 c] 24)) (hy : w.heap[bY]? = some (memBox a n cap)) (hs : Sl w (.slice a n cap) n (cls M)) (hM : M.length = n) (hn : n ≤ 1000000) (hMo : MemOk M)
    (K : Act → World → Prop) (Q' : Exit → Act → World → Prop) (hK : ∀ (e22 e62 e63 e64 e65 e66 e67 e68 e69 e70 e308 e309 e310 e311 e312 e313 e314 e315 e316 e317 e318 e319 e320 e321 e322 e323 e324 e325 e326 e327 e328 e329 e330 e331 e332 e333 e334 e335 e336 e337 e338 e339 e340 e341 e342 e343 e344 e345 e346 e347 e348 e349 e350 e351 e352 e353 e354 e355 e356 e357 e358 e359 e360 : Value) (w' : World), Below w.heap.size w w' → K { tmps := #[c0, c1, c2, c3, c4, c5, c6, c7, c8, c9, c10, c11, c12, c13, c14, c15, c16, c17, c18, c19, c20, c21, e22, c23, c24, c25, c26, c27, c28, c29, c30, c31, .pointer (some ⟨bd, 0, none⟩), c33, c34, c35, c36, c37, c38, c39, c40, c41, c42, c43, c44, c45, c46, c47, c48, c49, c50, c51, c52, c53, c54, c55, c56, c57, c58, c59, .pointer (some ⟨bY, 0, none⟩), c61, e62, e63, e64, e65, e66, e67, e68, e69, e70, c71, c72, c73, c74, c75, c76, c77, c78, c79, c80, c81, c82, c83, c84, c85, c86, c87, c88, c89, c90, c91, c92, c93, c94, c95, c96, c97, c98, c99, c100, c101, c102, c103, c104, c105, c106, c107, c108, c109, c110, c111, c112, c113, c114, c115, c116, c117, c118, c119, c120, c121, c122, c123, c124, c125, c126, c127, c128, c129, c130, c131, c132, c133, c134, c135, c136, c137, c138, c139, c140, c141, c142, c143, c144, c145, c146, c147, c148, c149, c150, c151, c152, c153, c154, c155, c156, c157, c158, c159, c160, c161, c162, c163, c164, c165, c166, c167, c168, c169, c170, c171, c172, c173, c174, c175, c176, c177, c178, c179, c180, c181, c182, c183, c184, c185, c186, c187, c188, c189, c190, c191, c192, c193, c194, c195, c196, c197, c198, c199, c200, c201, c202, c203, c204, c205, c206, c207, c208, c209, c210, c211, c212, c213, c214, c215, c216, c217, c218, c219, c220, c221, c222, c223, c224, c225, c226, c227, c228, c229, c230, c231, c232, c233, c234, c235, c236, c237, c238, c239, c240, c241, c242, c243, c244, c245, c246, c247, c248, c249, c250, c251, c252, c253, c254, c255, c256, c257, c258, c259, c260, c261, c262, c263, c264, c265, c266, c267, c268, c269, c270, c271, c272, c273, c274, c275, c276, c277, c278, c279, c280, c281, c282, c283, c284, c285, c286, c287, c288, c289, c290, c291, c292, c293, c294, c295, c296, c297, c298, c299, c300, c301, c302, c303, c304, c305, .slice (some ⟨b1, 0, none⟩) 2 2, .int .i64 2, e308, e309, e310, e311, e312, e313, e314, e315, e316, e317, e318, e319, e320, e321, e322, e323, e324, e325, e326, e327, e328, e329, e330, e331, e332, e333, e334, e335, e336, e337, e338, e339, e340, e341, e342, e343, e344, e345, e346, e347, e348, e349, e350, e351, e352, e353, e354, e355, e356, e357, e358, e359, e360, c361, c362, c363], defers := [] } w') :
    Code.wp Tryd.prog lawL7 (Exit.inBlock 12 (Exit.inBlock 11 (Exit.then K Q'))) { tmps := #[c0, c1, c2, c3, c4, c5, c6, c7, c8, c9, c10, c11, c12, c13, c14, c15, c16, c17, c18, c19, c20, c21, c22, c23, c24, c25, c26, c27, c28, c29, c30, c31, .pointer (some ⟨bd, 0, none⟩), c33, c34, c35, c36, c37, c38, c39, c40, c41, c42, c43, c44, c45, c46, c47, c48, c49, c50, c51, c52, c53, c54, c55, c56, c57, c58, c59, .pointer (some ⟨bY, 0, none⟩), c61, c62, c63, c64, c65, c66, c67, c68, c69, c70, c71, c72, c73, c74, c75, c76, c77, c78, c79, c80, c81, c82, c83, c84, c85, c86, c87, c88, c89, c90, c91, c92, c93, c94, c95, c96, c97, c98, c99, c100, c101, c102, c103, c104, c105, c106, c107, c108, c109, c110, c111, c112, c113, c114, c115, c116, c117, c118, c119, c120, c121, c122, c123, c124, c125, c126, c127, c128, c129, c130, c131, c132, c133, c134, c135, c136, c137, c138, c139, c140, c141, c142, c143, c144, c145, c146, c147, c148, c149, c150, c151, c152, c153, c154, c155, c156, c157, c158, c159, c160, c161, c162, c163, c164, c165, c166, c167, c168, c169, c170, c171, c172, c173, c174, c175, c176, c177, c178, c179, c180, c181, c182, c183, c184, c185, c186, c187, c188, c189, c190, c191, c192, c193, c194, c195, c196, c197, c198, c199, c200, c201, c202, c203, c204, c205, c206, c207, c208, c209, c210, c211, c212, c213, c214, c215, c216, c217, c218, c219, c220, c221, c222, c223, c224, c225, c226, c227, c228, c229, c230, c231, c232, c233, c234, c235, c236, c237, c238, c239, c240, c241, c242, c243, c244, c245, c246, c247, c248, c249, c250, c251, c252, c253, c254, c255, c256, c257, c258, c259, c260, c261, c262, c263, c264, c265, c266, c267, c268, c269, c270, c271, c272, c273, c274, c275, c276, c277, c278, c279, c280, c281, c282, c283, c284, c285, c286, c287, c288, c289, c290, c291, c292, c293, c294, c295, c296, c297, c298, c299, c300, c301, c302, c303, c304, c305, .slice (some ⟨b1, 0, none⟩) 2 2, .int .i64 2, .int .i64 0, c309, c310, c311, c312, c313, c314, c315, c316, c317, c318, c319, c320, c321, c322, c323, c324, c325, c326, c327, c328, c329, c330, c331, c332, c333, c334, c335, c336, c337, c338, c339, c340, c341, c342, c343, c344, c345, c346, c347, c348, c349, c350, c351, c352, c353, c354, c355, c356, c357, c358, c359, c360, c361, c362, c363], defers := [] } w := by
  have HK := Lib.hid hK
  have HO := Lib.hid ho
  have HD := Lib.hid hd
  have HY := Lib.hid hy
  have HSl := Lib.hid hs
  have HM := Lib.hid (And.intro hM hMo)
  clear hK ho hd hy hs hMo
  conv => arg 2; whnf
  go_wp2_with fail
  obtain ⟨W1, rfl⟩ : ∃ W1 : World, W1 = w := ⟨_, rfl⟩
  have hB1 : Below W1.heap.size W1 W1 := Below.refl _ _
  have HL : Hid (∀ j : Nat, j < 2 → ∀ W, Below W1.heap.size W1 W → ∃ r, W.cell? ⟨b1, j, none⟩ = some (.int .i64 r)) := Lib.hid (fun j hj W hB => by
    have hb := (hB.block b1 (Array.getElem?_eq_some_iff.1 z1).1).trans z1
    rcases (show j = 0 ∨ j = 1 by omega) with rfl | rfl
    · exact ⟨_, blk_cell hb rfl⟩
    · exact ⟨_, blk_cell hb rfl⟩)
  have hby := (Array.getElem?_eq_some_iff.1 HY.out).1
  have HB1 := Lib.hid hB1
  have hbd := (Array.getElem?_eq_some_iff.1 HD.out).1
  clear hB1 z1
  go_loopw [308] (fun i wr => ∃ j : Nat, j ≤ 2 ∧ i = .int .i64 j ∧ Hid (Below W1.heap.size W1 wr)) (fun i _ => 2 - (intOf i).toNat)
  case atStart => exact ⟨0, by omega, rfl, Lib.hid (Below.refl _ _)⟩
  case round =>
    obtain ⟨j, hj, rfl, hB⟩ := hrel
    have HBw := Lib.hid (HB1.out.trans (hB.out.mono HB1.out.size))
    by_cases hlt : j = 2
    · subst hlt
      go_wp2
      exact HK.out _ _ _ _ _ _ _ _ _ _ _ _ _ _ _ _ _ _ _ _ _ _ _ _ _ _ _ _ _ _ _ _ _ _ _ _ _ _ _ _ _ _ _ _ _ _ _ _ _ _ _ _ _ _ _ _ _ _ _ _ _ _ _ _ HBw.out
    · have hj2 : j < 2 := by omega
      have hbox := (HBw.out.block bd (by omega)).trans HD.out
      have d0 := blk_cell hbox (i := 0) (v := .int .i64 k) rfl
      have d1 := blk_cell hbox (i := 1) (v := .int .i64 p) rfl
      have d2 := blk_cell hbox (i := 2) (v := .int .i64 c) rfl
      obtain ⟨r, hz⟩ := HL.out j hj2 wr hB.out
      obtain ⟨R1, hR1⟩ : ∃ R, layR k p c r M = R := ⟨_, rfl⟩
      obtain ⟨R2, hR2⟩ : ∃ R, wipeR k p c r M = R := ⟨_, rfl⟩
      have HR1l := Lib.hid (show R1.1.length ≤ 1000000000 from hR1 ▸ layR_len k p c r M (by omega))
      have HR2l := Lib.hid (show R2.1.length ≤ 1000000000 from hR2 ▸ wipeR_len k p c r M (by omega))
      have C1 := Lib.hid (show ∀ W, Below W1.heap.size W1 W → Calls Tryd.prog 21 #[conf k p c, .agg #[.slice a n cap], .int .i64 r] W (MemPost W R1) from fun W hW => hR1 ▸ wLay k p c r _ M n W (HO.out.below hW) HM.out.1 hn (HSl.out.below hW) HM.out.2)
      have C2 := Lib.hid (show ∀ W, Below W1.heap.size W1 W → Calls Tryd.prog 22 #[conf k p c, .agg #[.slice a n cap], .int .i64 r] W (MemPost W R1) from fun W hW => hR1 ▸ fLay k p c r _ M n W (HO.out.below hW) HM.out.1 (HSl.out.below hW) HM.out.2)
      have C3 := Lib.hid (show ∀ W, Below W1.heap.size W1 W → Calls Tryd.prog 23 #[conf k p c, .agg #[.slice a n cap], .int .i64 r] W (MemPost W R2) from fun W hW => hR2 ▸ wWipe k p c r _ M n W (HO.out.below hW) HM.out.1 hn (HSl.out.below hW))
      have C4 := Lib.hid (show ∀ W, Below W1.heap.size W1 W → Calls Tryd.prog 24 #[conf k p c, .agg #[.slice a n cap], .int .i64 r] W (MemPost W R2) from fun W hW => hR2 ▸ fWipe k p c r _ M n W HM.out.1 hn (HSl.out.below hW))
      have HBx := HBw
      have HB0 := hB
      have ybox := (HBx.out.block bY (by omega)).trans HY.out; have y0 := blk_cell ybox (i := 0) (v := .slice a n cap) rfl; have ybw := (Array.getElem?_eq_some_iff.1 ybox).1; clear ybox
      clear hR1 hR2 hlt hj hbox
      go_wp2_with (first | (go_at_call 21; refine (C1.out _ HBw.out).mono ?_; rintro e w1 ⟨v1, rfl, hv, hb⟩; obtain ⟨a1, cp1, rfl⟩ := owns_slice hv; have V1 := Lib.hid (sl_of_owns hv); have HB1 := Lib.hid (HB0.out.trans (hb.mono HB0.out.size)); have HBx := Lib.hid (HBx.out.trans (hb.mono HBx.out.size)); have hbox := (HBx.out.block bd (by omega)).trans HD.out; have hbw := (Array.getElem?_eq_some_iff.1 hbox).1; have d0 := blk_cell hbox (i := 0) (v := .int .i64 k) rfl; have d1 := blk_cell hbox (i := 1) (v := .int .i64 p) rfl; have d2 := blk_cell hbox (i := 2) (v := .int .i64 c) rfl; have ybox := (HBx.out.block bY (by omega)).trans HY.out; have y0 := blk_cell ybox (i := 0) (v := .slice a n cap) rfl; have ybw := (Array.getElem?_eq_some_iff.1 ybox).1; clear ybox; clear hb hbox; clear hv) | (go_at_call 22; refine (C2.out _ (HBx.out.trans ((blk_alloc w1 _).mono HBx.out.size))).mono ?_; rintro e w2 ⟨v2, rfl, hv, hb⟩; obtain ⟨a2, cp2, rfl⟩ := owns_slice hv; have V2 := Lib.hid (sl_of_owns hv); have X1 := Lib.hid ((hb.block w1.heap.size (by simp)).trans (World.alloc_heap_new w1 _)); have hb := (blk_alloc w1 _).trans (hb.mono (by simp)); have e1 := blk_cell X1.out (i := 0) (v := .slice a1 R1.1.length cp1) rfl; have q1 := (Array.getElem?_eq_some_iff.1 X1.out).1; have V1 := Lib.hid (V1.out.below hb); have HB2 := Lib.hid (HB1.out.trans (hb.mono HB1.out.size)); have HBx := Lib.hid (HBx.out.trans (hb.mono HBx.out.size)); have hbox := (HBx.out.block bd (by omega)).trans HD.out; have hbw := (Array.getElem?_eq_some_iff.1 hbox).1; have d0 := blk_cell hbox (i := 0) (v := .int .i64 k) rfl; have d1 := blk_cell hbox (i := 1) (v := .int .i64 p) rfl; have d2 := blk_cell hbox (i := 2) (v := .int .i64 c) rfl; have ybox := (HBx.out.block bY (by omega)).trans HY.out; have y0 := blk_cell ybox (i := 0) (v := .slice a n cap) rfl; have ybw := (Array.getElem?_eq_some_iff.1 ybox).1; clear ybox; clear hb hbox; clear hv) | (go_at_call 23; refine (C3.out _ (HBx.out.trans ((blk_alloc w2 _).mono HBx.out.size))).mono ?_; rintro e w3 ⟨v3, rfl, hv, hb⟩; obtain ⟨a3, cp3, rfl⟩ := owns_slice hv; have V3 := Lib.hid (sl_of_owns hv); have X2 := Lib.hid ((hb.block w2.heap.size (by simp)).trans (World.alloc_heap_new w2 _)); have hb := (blk_alloc w2 _).trans (hb.mono (by simp)); have e2 := blk_cell X2.out (i := 0) (v := .slice a2 R1.1.length cp2) rfl; have q2 := (Array.getElem?_eq_some_iff.1 X2.out).1; have X1 := Lib.hid ((hb.block _ (Array.getElem?_eq_some_iff.1 X1.out).1).trans X1.out); have e1 := blk_cell X1.out (i := 0) (v := .slice a1 R1.1.length cp1) rfl; have q1 := (Array.getElem?_eq_some_iff.1 X1.out).1; have V1 := Lib.hid (V1.out.below hb); have V2 := Lib.hid (V2.out.below hb); have HB3 := Lib.hid (HB2.out.trans (hb.mono HB2.out.size)); have HBx := Lib.hid (HBx.out.trans (hb.mono HBx.out.size)); have hbox := (HBx.out.block bd (by omega)).trans HD.out; have hbw := (Array.getElem?_eq_some_iff.1 hbox).1; have d0 := blk_cell hbox (i := 0) (v := .int .i64 k) rfl; have d1 := blk_cell hbox (i := 1) (v := .int .i64 p) rfl; have d2 := blk_cell hbox (i := 2) (v := .int .i64 c) rfl; have ybox := (HBx.out.block bY (by omega)).trans HY.out; have y0 := blk_cell ybox (i := 0) (v := .slice a n cap) rfl; have ybw := (Array.getElem?_eq_some_iff.1 ybox).1; clear ybox; clear hb hbox; clear hv) | (go_at_call 24; refine (C4.out _ (HBx.out.trans ((blk_alloc w3 _).mono HBx.out.size))).mono ?_; rintro e w4 ⟨v4, rfl, hv, hb⟩; obtain ⟨a4, cp4, rfl⟩ := owns_slice hv; have V4 := Lib.hid (sl_of_owns hv); have X3 := Lib.hid ((hb.block w3.heap.size (by simp)).trans (World.alloc_heap_new w3 _)); have hb := (blk_alloc w3 _).trans (hb.mono (by simp)); have e3 := blk_cell X3.out (i := 0) (v := .slice a3 R2.1.length cp3) rfl; have q3 := (Array.getElem?_eq_some_iff.1 X3.out).1; have X1 := Lib.hid ((hb.block _ (Array.getElem?_eq_some_iff.1 X1.out).1).trans X1.out); have e1 := blk_cell X1.out (i := 0) (v := .slice a1 R1.1.length cp1) rfl; have q1 := (Array.getElem?_eq_some_iff.1 X1.out).1; have X2 := Lib.hid ((hb.block _ (Array.getElem?_eq_some_iff.1 X2.out).1).trans X2.out); have e2 := blk_cell X2.out (i := 0) (v := .slice a2 R1.1.length cp2) rfl; have q2 := (Array.getElem?_eq_some_iff.1 X2.out).1; have V1 := Lib.hid (V1.out.below hb); have V2 := Lib.hid (V2.out.below hb); have V3 := Lib.hid (V3.out.below hb); have HB4 := Lib.hid (HB3.out.trans (hb.mono HB3.out.size)); have HBx := Lib.hid (HBx.out.trans (hb.mono HBx.out.size)); have hbox := (HBx.out.block bd (by omega)).trans HD.out; have hbw := (Array.getElem?_eq_some_iff.1 hbox).1; have d0 := blk_cell hbox (i := 0) (v := .int .i64 k) rfl; have d1 := blk_cell hbox (i := 1) (v := .int .i64 p) rfl; have d2 := blk_cell hbox (i := 2) (v := .int .i64 c) rfl; have ybox := (HBx.out.block bY (by omega)).trans HY.out; have y0 := blk_cell ybox (i := 0) (v := .slice a n cap) rfl; have ybw := (Array.getElem?_eq_some_iff.1 ybox).1; clear ybox; clear hb hbox; clear hv))
      have hba := blk_alloc w4 (memBox a4 R2.1.length cp4)
      have CS := same _ _ R1.1 R1.1 _ (V1.out.below hba) (V2.out.below hba) HR1l.out
      rw [show decide (R1.1 = R1.1) = true from decide_eq_true rfl] at CS
      refine CS.mono ?_
      rintro e w5 ⟨rfl, hb⟩
      have X4 := Lib.hid ((hb.block w4.heap.size (by simp)).trans (World.alloc_heap_new w4 _))
      have hb := hba.trans (hb.mono (by simp))
      have X3 := Lib.hid ((hb.block _ (Array.getElem?_eq_some_iff.1 X3.out).1).trans X3.out); have e3 := blk_cell X3.out (i := 0) (v := .slice a3 R2.1.length cp3) rfl; have q3 := (Array.getElem?_eq_some_iff.1 X3.out).1
      have e4 := blk_cell X4.out (i := 0) (v := .slice a4 R2.1.length cp4) rfl
      have V3 := Lib.hid (V3.out.below hb); have V4 := Lib.hid (V4.out.below hb)
      have HB5 := Lib.hid (HB4.out.trans (hb.mono HB4.out.size))
      have HBx := Lib.hid (HBx.out.trans (hb.mono HBx.out.size))
      have hbox := (HBx.out.block bd (by omega)).trans HD.out
      have hbw := (Array.getElem?_eq_some_iff.1 hbox).1
      have d0 := blk_cell hbox (i := 0) (v := .int .i64 k) rfl
      have d1 := blk_cell hbox (i := 1) (v := .int .i64 p) rfl
      have d2 := blk_cell hbox (i := 2) (v := .int .i64 c) rfl
      clear hb hbox
      clear CS hba
      go_wp2_with fail
      have CS := same _ _ R2.1 R2.1 w5 V3.out V4.out HR2l.out
      rw [show decide (R2.1 = R2.1) = true from decide_eq_true rfl] at CS
      refine CS.mono ?_
      rintro e w6 ⟨rfl, hb⟩
      have HB6 := Lib.hid (HB5.out.trans (hb.mono HB5.out.size))
      have HBx := Lib.hid (HBx.out.trans (hb.mono HBx.out.size))
      have hbox := (HBx.out.block bd (by omega)).trans HD.out
      have hbw := (Array.getElem?_eq_some_iff.1 hbox).1
      have d0 := blk_cell hbox (i := 0) (v := .int .i64 k) rfl
      have d1 := blk_cell hbox (i := 1) (v := .int .i64 p) rfl
      have d2 := blk_cell hbox (i := 2) (v := .int .i64 c) rfl
      clear hb hbox
      clear CS
      go_wp2
      go_roundw
      case rel => exact ⟨j + 1, by omega, by go_num, HB6⟩
      case measure => simp [intOf]; omega

end Go.Proofs.YthigfjelgbdcfaaDoor
