/- A part of the law's walk: the places. -/
import Derived.Test.YthigfjelgbdcfaaDoorGLwBase

set_option linter.unusedSimpArgs false
set_option linter.unusedVariables false

namespace Go.Proofs.YthigfjelgbdcfaaDoor
open Go.RowKit Go.Maps

set_option linter.unusedSimpArgs false in
set_option linter.unusedVariables false in
set_option maxRecDepth 1000000 in
set_option maxHeartbeats 8000000 in
theorem law_spots {c0 c1 c2 c3 c4 c5 c6 c9 c10 c11 c12 c13 c14 c15 c16 c17 c18 c19 c20 c21 c22 c23 c24 c25 c26 c27 c28 c30 c31 c33 c34 c35 c36 c37 c38 c39 c40 c41 c42 c43 c44 c45 c46 c47 c48 c49 c50 c51 c52 c53 c54 c55 c56 c57 c58 c59 c60 c61 c62 c63 c64 c65 c66 c67 c68 c69 c70 c71 c72 c73 c74 c75 c76 c77 c78 c79 c80 c81 c82 c83 c84 c85 c86 c87 c88 c89 c90 c91 c92 c93 c94 c95 c96 c97 c98 c99 c100 c101 c102 c103 c104 c105 c106 c107 c108 c109 c110 c111 c112 c113 c114 c115 c116 c117 c118 c119 c120 c121 c122 c123 c124 c125 c126 c127 c128 c129 c130 c131 c132 c133 c134 c135 c136 c137 c138 c139 c140 c141 c142 c143 c144 c145 c146 c147 c148 c149 c150 c151 c152 c153 c154 c155 c156 c157 c158 c159 c160 c161 c162 c163 c164 c165 c166 c167 c168 c169 c170 c171 c172 c173 c174 c175 c176 c177 c178 c179 c180 c181 c182 c183 c184 c185 c186 c187 c188 c189 c190 c191 c192 c193 c194 c195 c196 c197 c198 c199 c200 c201 c202 c203 c204 c205 c206 c207 c208 c209 c210 c211 c212 c213 c214 c215 c216 c217 c218 c219 c220 c221 c222 c223 c224 c225 c226 c227 c228 c229 c230 c231 c232 c233 c234 c235 c236 c237 c238 c239 c240 c241 c242 c243 c244 c245 c246 c247 c248 c249 c250 c251 c252 c253 c254 c255 c256 c257 c258 c259 c260 c261 c262 c263 c264 c265 c266 c267 c268 c269 c270 c271 c272 c273 c274 c275 c276 c277 c278 c279 c280 c281 c282 c283 c284 c285 c286 c287 c288 c289 c290 c291 c292 c293 c294 c295 c296 c297 c298 c299 c300 c301 c302 c303 c304 c305 c306 c307 c308 c309 c310 c311 c312 c313 c314 c315 c316 c317 c318 c319 c320 c321 c322 c323 c324 c325 c326 c327 c328 c329 c330 c331 c332 c333 c334 c335 c336 c337 c338 c339 c340 c341 c342 c343 c344 c345 c346 c347 c348 c349 c350 c351 c352 c353 c354 c355 c356 c357 c358 c359 c360 c361 c362 c363 : Value} (k p c p_ i_ q_ : Int) (bd : Nat) (w : World) (ho : Objs w) (hd : w.heap[bd]? = some (.cells #[.int .i64 k, .int .i64 p, .int .i64 c] 24)) (hi : I64 i_)
    (K : Act → World → Prop) (Q' : Exit → Act → World → Prop) (hK : ∀ (e22 e52 e53 e54 e55 e56 e57 e58 e229 e230 e231 e232 e233 e234 e235 e236 e237 e238 e239 e240 e241 e242 e243 e244 e245 e246 e247 e248 e249 e250 e251 e252 e253 e254 e255 e256 e257 e258 e259 e260 e261 e262 e263 e264 e265 e266 e267 e268 e269 e270 e271 e272 e273 e274 e275 e276 e277 e278 : Value) (w' : World), Below w.heap.size w w' → K { tmps := #[c0, c1, c2, c3, c4, c5, c6, .int .i64 p_, .int .i64 i_, c9, c10, c11, c12, c13, c14, c15, c16, c17, c18, c19, c20, c21, e22, c23, c24, c25, c26, c27, c28, .int .i64 q_, c30, c31, .pointer (some ⟨bd, 0, none⟩), c33, c34, c35, c36, c37, c38, c39, c40, c41, c42, c43, c44, c45, c46, c47, c48, c49, c50, c51, e52, e53, e54, e55, e56, e57, e58, c59, c60, c61, c62, c63, c64, c65, c66, c67, c68, c69, c70, c71, c72, c73, c74, c75, c76, c77, c78, c79, c80, c81, c82, c83, c84, c85, c86, c87, c88, c89, c90, c91, c92, c93, c94, c95, c96, c97, c98, c99, c100, c101, c102, c103, c104, c105, c106, c107, c108, c109, c110, c111, c112, c113, c114, c115, c116, c117, c118, c119, c120, c121, c122, c123, c124, c125, c126, c127, c128, c129, c130, c131, c132, c133, c134, c135, c136, c137, c138, c139, c140, c141, c142, c143, c144, c145, c146, c147, c148, c149, c150, c151, c152, c153, c154, c155, c156, c157, c158, c159, c160, c161, c162, c163, c164, c165, c166, c167, c168, c169, c170, c171, c172, c173, c174, c175, c176, c177, c178, c179, c180, c181, c182, c183, c184, c185, c186, c187, c188, c189, c190, c191, c192, c193, c194, c195, c196, c197, c198, c199, c200, c201, c202, c203, c204, c205, c206, c207, c208, c209, c210, c211, c212, c213, c214, c215, c216, c217, c218, c219, c220, c221, c222, c223, c224, c225, c226, c227, c228, e229, e230, e231, e232, e233, e234, e235, e236, e237, e238, e239, e240, e241, e242, e243, e244, e245, e246, e247, e248, e249, e250, e251, e252, e253, e254, e255, e256, e257, e258, e259, e260, e261, e262, e263, e264, e265, e266, e267, e268, e269, e270, e271, e272, e273, e274, e275, e276, e277, e278, c279, c280, c281, c282, c283, c284, c285, c286, c287, c288, c289, c290, c291, c292, c293, c294, c295, c296, c297, c298, c299, c300, c301, c302, c303, c304, c305, c306, c307, c308, c309, c310, c311, c312, c313, c314, c315, c316, c317, c318, c319, c320, c321, c322, c323, c324, c325, c326, c327, c328, c329, c330, c331, c332, c333, c334, c335, c336, c337, c338, c339, c340, c341, c342, c343, c344, c345, c346, c347, c348, c349, c350, c351, c352, c353, c354, c355, c356, c357, c358, c359, c360, c361, c362, c363], defers := [] } w') :
    Code.wp Tryd.prog lawA5 (Exit.then K Q') { tmps := #[c0, c1, c2, c3, c4, c5, c6, .int .i64 p_, .int .i64 i_, c9, c10, c11, c12, c13, c14, c15, c16, c17, c18, c19, c20, c21, c22, c23, c24, c25, c26, c27, c28, .int .i64 q_, c30, c31, .pointer (some ⟨bd, 0, none⟩), c33, c34, c35, c36, c37, c38, c39, c40, c41, c42, c43, c44, c45, c46, c47, c48, c49, c50, c51, c52, c53, c54, c55, c56, c57, c58, c59, c60, c61, c62, c63, c64, c65, c66, c67, c68, c69, c70, c71, c72, c73, c74, c75, c76, c77, c78, c79, c80, c81, c82, c83, c84, c85, c86, c87, c88, c89, c90, c91, c92, c93, c94, c95, c96, c97, c98, c99, c100, c101, c102, c103, c104, c105, c106, c107, c108, c109, c110, c111, c112, c113, c114, c115, c116, c117, c118, c119, c120, c121, c122, c123, c124, c125, c126, c127, c128, c129, c130, c131, c132, c133, c134, c135, c136, c137, c138, c139, c140, c141, c142, c143, c144, c145, c146, c147, c148, c149, c150, c151, c152, c153, c154, c155, c156, c157, c158, c159, c160, c161, c162, c163, c164, c165, c166, c167, c168, c169, c170, c171, c172, c173, c174, c175, c176, c177, c178, c179, c180, c181, c182, c183, c184, c185, c186, c187, c188, c189, c190, c191, c192, c193, c194, c195, c196, c197, c198, c199, c200, c201, c202, c203, c204, c205, c206, c207, c208, c209, c210, c211, c212, c213, c214, c215, c216, c217, c218, c219, c220, c221, c222, c223, c224, c225, c226, c227, c228, c229, c230, c231, c232, c233, c234, c235, c236, c237, c238, c239, c240, c241, c242, c243, c244, c245, c246, c247, c248, c249, c250, c251, c252, c253, c254, c255, c256, c257, c258, c259, c260, c261, c262, c263, c264, c265, c266, c267, c268, c269, c270, c271, c272, c273, c274, c275, c276, c277, c278, c279, c280, c281, c282, c283, c284, c285, c286, c287, c288, c289, c290, c291, c292, c293, c294, c295, c296, c297, c298, c299, c300, c301, c302, c303, c304, c305, c306, c307, c308, c309, c310, c311, c312, c313, c314, c315, c316, c317, c318, c319, c320, c321, c322, c323, c324, c325, c326, c327, c328, c329, c330, c331, c332, c333, c334, c335, c336, c337, c338, c339, c340, c341, c342, c343, c344, c345, c346, c347, c348, c349, c350, c351, c352, c353, c354, c355, c356, c357, c358, c359, c360, c361, c362, c363], defers := [] } w := by
  have CP := Lib.hid (fun w => pick_any i_ 20 w hi.1 hi.2 (by omega))
  have HK := Lib.hid hK
  have HO := Lib.hid ho
  have HD := Lib.hid hd
  obtain ⟨y, hy⟩ : ∃ y, pickI i_ 20 = y := ⟨_, rfl⟩
  rw [hy] at CP
  clear hK ho hd hi hy
  conv => arg 2; whnf
  go_wp2_with (first | (go_at_call 9; refine (CP.out _).mono ?_; rintro e w' ⟨rfl, rfl⟩))
  obtain ⟨W1, hW1⟩ : ∃ W1, w.alloc (.cells #[.int .i64 p_, .int .i64 i_, .int .i64 q_, .int .i64 i_, .int .i64 q_, .int .i64 y] 51) = W1 := ⟨_, rfl⟩
  have hB1 : Below w.heap.size w W1 := by rw [← hW1]; exact blk_alloc _ _
  obtain ⟨b1, hb1⟩ : ∃ b1, w.heap.size = b1 := ⟨_, rfl⟩
  have z1 : W1.heap[b1]? = some (.cells #[.int .i64 p_, .int .i64 i_, .int .i64 q_, .int .i64 i_, .int .i64 q_, .int .i64 y] 51 (0, 0)) := by rw [← hW1, ← hb1]; exact World.alloc_heap_new _ _
  have HL : Hid (∀ j : Nat, j < 3 → ∀ W, Below W1.heap.size W1 W → ∃ a b, W.cell? ⟨b1, j * 2, none⟩ = some (.int .i64 a) ∧ W.cell? ⟨b1, j * 2 + 1, none⟩ = some (.int .i64 b)) := Lib.hid (fun j hj W hB => by
    have hb := (hB.block b1 (Array.getElem?_eq_some_iff.1 z1).1).trans z1
    rcases (show j = 0 ∨ j = 1 ∨ j = 2 by omega) with rfl | rfl | rfl
    · exact ⟨_, _, blk_cell hb rfl, blk_cell hb rfl⟩
    · exact ⟨_, _, blk_cell hb rfl, blk_cell hb rfl⟩
    · exact ⟨_, _, blk_cell hb rfl, blk_cell hb rfl⟩)
  have HB1 := Lib.hid hB1
  have hbd := (Array.getElem?_eq_some_iff.1 HD.out).1
  rw [hW1, hb1]
  have HBS := Lib.hid hb1
  clear hB1 hW1 z1 hb1
  go_loopw [241] (fun i wr => ∃ j : Nat, j ≤ 3 ∧ i = .int .i64 j ∧ Hid (Below W1.heap.size W1 wr)) (fun i _ => 3 - (intOf i).toNat)
  case atStart => exact ⟨0, by omega, rfl, Lib.hid (Below.refl _ _)⟩
  case round =>
    obtain ⟨j, hj, rfl, hB⟩ := hrel
    have HBw := Lib.hid (HB1.out.trans (hB.out.mono HB1.out.size))
    by_cases hlt : j = 3
    · subst hlt
      go_wp2
      exact HK.out _ _ _ _ _ _ _ _ _ _ _ _ _ _ _ _ _ _ _ _ _ _ _ _ _ _ _ _ _ _ _ _ _ _ _ _ _ _ _ _ _ _ _ _ _ _ _ _ _ _ _ _ _ _ _ _ _ _ _ HBw.out
    · have hj2 : j < 3 := by omega
      have hbox := (HBw.out.block bd (by omega)).trans HD.out
      have d0 := blk_cell hbox (i := 0) (v := .int .i64 k) rfl
      have d1 := blk_cell hbox (i := 1) (v := .int .i64 p) rfl
      have d2 := blk_cell hbox (i := 2) (v := .int .i64 c) rfl
      obtain ⟨a, b, hz, hz2⟩ := HL.out j hj2 wr hB.out
      have hbw : bd < wr.heap.size := (Array.getElem?_eq_some_iff.1 hbox).1
      obtain ⟨s1, s2, s3, hsp⟩ := spotU_form k p c a b
      have C1 := Lib.hid (show ∀ W, Below w.heap.size w W → Calls Tryd.prog 18 #[conf k p c, .int .i64 a, .int .i64 b] W fun e w' => e = .returned (.tuple #[.int .i64 s1, .int .i64 s2, .int .i64 s3]) ∧ Below W.heap.size W w' from fun W hW => hsp ▸ wSpotU k p c a b W (HO.out.below hW))
      have C2 := Lib.hid (show ∀ W, Calls Tryd.prog 19 #[conf k p c, .int .i64 a, .int .i64 b] W fun e w' => e = .returned (.tuple #[.int .i64 s1, .int .i64 s2, .int .i64 s3]) ∧ Below W.heap.size W w' from fun W => hsp ▸ fSpotU k p c a b W)
      have HBx := HBw
      have HB0 := hB
      clear hlt hj hbox hsp
      go_wp2_with (first | (go_at_call 18; refine (C1.out _ (HBw.out.trans ((blk_alloc wr _).mono HBw.out.size))).mono ?_; rintro e w1 ⟨rfl, hb⟩; have bx := (hb.block wr.heap.size (by simp)).trans (World.alloc_heap_new wr _); have e0 := blk_cell bx (i := 0) (v := .int .i64 a) rfl; have e1 := blk_cell bx (i := 1) (v := .int .i64 b) rfl; have hb := (blk_alloc wr _).trans (hb.mono (by simp)); have HB1 := Lib.hid (HB0.out.trans (hb.mono HB0.out.size)); have HBx := Lib.hid (HBx.out.trans (hb.mono HBx.out.size)); have hbox := (HBx.out.block bd (by omega)).trans HD.out; have hbw := (Array.getElem?_eq_some_iff.1 hbox).1; have d0 := blk_cell hbox (i := 0) (v := .int .i64 k) rfl; have d1 := blk_cell hbox (i := 1) (v := .int .i64 p) rfl; have d2 := blk_cell hbox (i := 2) (v := .int .i64 c) rfl; clear hb hbox; clear bx) | (go_at_call 19; refine (C2.out _).mono ?_; rintro e w2 ⟨rfl, hb⟩; have HB2 := Lib.hid (HB1.out.trans (hb.mono HB1.out.size)); have HBx := Lib.hid (HBx.out.trans (hb.mono HBx.out.size)); have hbox := (HBx.out.block bd (by omega)).trans HD.out; have hbw := (Array.getElem?_eq_some_iff.1 hbox).1; have d0 := blk_cell hbox (i := 0) (v := .int .i64 k) rfl; have d1 := blk_cell hbox (i := 1) (v := .int .i64 p) rfl; have d2 := blk_cell hbox (i := 2) (v := .int .i64 c) rfl; clear hb hbox))
      go_roundw
      case rel => exact ⟨j + 1, by omega, by go_num, HB2⟩
      case measure => simp [intOf]; omega

end Go.Proofs.YthigfjelgbdcfaaDoor
