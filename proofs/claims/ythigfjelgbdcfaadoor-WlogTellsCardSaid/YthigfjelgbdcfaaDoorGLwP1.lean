/- A part of the law's walk: the calls of Pack. -/
import Derived.Test.YthigfjelgbdcfaaDoorGLwBase

set_option linter.unusedSimpArgs false
set_option linter.unusedVariables false

namespace Go.Proofs.YthigfjelgbdcfaaDoor
open Go.RowKit Go.Maps

set_option linter.unusedSimpArgs false in
set_option linter.unusedVariables false in
set_option maxRecDepth 1000000 in
set_option maxHeartbeats 8000000 in
theorem law_places {c0 c1 c2 c3 c4 c7 c8 c9 c10 c11 c12 c13 c14 c15 c16 c17 c18 c19 c20 c21 c22 c23 c24 c25 c26 c27 c28 c29 c30 c31 c33 c34 c35 c36 c37 c38 c39 c40 c41 c42 c43 c44 c45 c46 c47 c48 c49 c50 c51 c52 c53 c54 c55 c56 c57 c58 c59 c60 c61 c62 c63 c64 c65 c66 c67 c68 c69 c70 c71 c72 c73 c74 c75 c76 c77 c78 c79 c80 c81 c82 c83 c84 c85 c86 c87 c88 c89 c90 c91 c92 c93 c94 c95 c96 c97 c98 c99 c100 c101 c102 c103 c104 c105 c106 c107 c108 c109 c110 c111 c112 c113 c114 c115 c116 c117 c118 c119 c120 c121 c122 c123 c124 c125 c126 c127 c128 c129 c130 c131 c132 c133 c134 c135 c136 c137 c138 c139 c140 c141 c142 c143 c144 c145 c146 c147 c148 c149 c150 c151 c152 c153 c154 c155 c156 c157 c158 c159 c160 c161 c162 c163 c164 c165 c166 c167 c168 c169 c170 c171 c172 c173 c174 c175 c176 c177 c178 c179 c180 c181 c182 c183 c184 c185 c186 c187 c188 c189 c190 c191 c192 c193 c194 c195 c196 c197 c198 c199 c200 c201 c202 c203 c204 c205 c206 c207 c208 c209 c210 c211 c212 c213 c214 c215 c216 c217 c218 c219 c220 c221 c222 c223 c224 c225 c226 c227 c228 c229 c230 c231 c232 c233 c234 c235 c236 c237 c238 c239 c240 c241 c242 c243 c244 c245 c246 c247 c248 c249 c250 c251 c252 c253 c254 c255 c256 c257 c258 c259 c260 c261 c262 c263 c264 c265 c266 c267 c268 c269 c270 c271 c272 c273 c274 c275 c276 c277 c278 c279 c280 c281 c282 c283 c284 c285 c286 c287 c288 c289 c290 c291 c292 c293 c294 c295 c296 c297 c298 c299 c300 c301 c302 c303 c304 c305 c306 c307 c308 c309 c310 c311 c312 c313 c314 c315 c316 c317 c318 c319 c320 c321 c322 c323 c324 c325 c326 c327 c328 c329 c330 c331 c332 c333 c334 c335 c336 c337 c338 c339 c340 c341 c342 c343 c344 c345 c346 c347 c348 c349 c350 c351 c352 c353 c354 c355 c356 c357 c358 c359 c360 c361 c362 c363 : Value} (k p c at_ x : Int) (bd : Nat) (w : World) (ho : Objs w) (hd : w.heap[bd]? = some (.cells #[.int .i64 k, .int .i64 p, .int .i64 c] 24)) (ha : I64 at_) (hx : 0 ≤ x ∧ x ≤ 18446744073709551615)
    (K : Act → World → Prop) (Q' : Exit → Act → World → Prop) (hK : ∀ (e22 e34 e35 e36 e37 e38 e129 e130 e131 e132 e133 e134 e135 e136 e137 e138 e139 e140 e141 e142 e143 e144 e145 e146 e147 e148 e149 e150 e151 e152 e153 e154 e155 e156 e157 e158 e159 : Value) (w' : World), Below w.heap.size w w' → K { tmps := #[c0, c1, c2, c3, c4, .int .i64 at_, .int .u64 x, c7, c8, c9, c10, c11, c12, c13, c14, c15, c16, c17, c18, c19, c20, c21, e22, c23, c24, c25, c26, c27, c28, c29, c30, c31, .pointer (some ⟨bd, 0, none⟩), c33, e34, e35, e36, e37, e38, c39, c40, c41, c42, c43, c44, c45, c46, c47, c48, c49, c50, c51, c52, c53, c54, c55, c56, c57, c58, c59, c60, c61, c62, c63, c64, c65, c66, c67, c68, c69, c70, c71, c72, c73, c74, c75, c76, c77, c78, c79, c80, c81, c82, c83, c84, c85, c86, c87, c88, c89, c90, c91, c92, c93, c94, c95, c96, c97, c98, c99, c100, c101, c102, c103, c104, c105, c106, c107, c108, c109, c110, c111, c112, c113, c114, c115, c116, c117, c118, c119, c120, c121, c122, c123, c124, c125, c126, c127, c128, e129, e130, e131, e132, e133, e134, e135, e136, e137, e138, e139, e140, e141, e142, e143, e144, e145, e146, e147, e148, e149, e150, e151, e152, e153, e154, e155, e156, e157, e158, e159, c160, c161, c162, c163, c164, c165, c166, c167, c168, c169, c170, c171, c172, c173, c174, c175, c176, c177, c178, c179, c180, c181, c182, c183, c184, c185, c186, c187, c188, c189, c190, c191, c192, c193, c194, c195, c196, c197, c198, c199, c200, c201, c202, c203, c204, c205, c206, c207, c208, c209, c210, c211, c212, c213, c214, c215, c216, c217, c218, c219, c220, c221, c222, c223, c224, c225, c226, c227, c228, c229, c230, c231, c232, c233, c234, c235, c236, c237, c238, c239, c240, c241, c242, c243, c244, c245, c246, c247, c248, c249, c250, c251, c252, c253, c254, c255, c256, c257, c258, c259, c260, c261, c262, c263, c264, c265, c266, c267, c268, c269, c270, c271, c272, c273, c274, c275, c276, c277, c278, c279, c280, c281, c282, c283, c284, c285, c286, c287, c288, c289, c290, c291, c292, c293, c294, c295, c296, c297, c298, c299, c300, c301, c302, c303, c304, c305, c306, c307, c308, c309, c310, c311, c312, c313, c314, c315, c316, c317, c318, c319, c320, c321, c322, c323, c324, c325, c326, c327, c328, c329, c330, c331, c332, c333, c334, c335, c336, c337, c338, c339, c340, c341, c342, c343, c344, c345, c346, c347, c348, c349, c350, c351, c352, c353, c354, c355, c356, c357, c358, c359, c360, c361, c362, c363], defers := [] } w') :
    Code.wp Tryd.prog lawA2 (Exit.then K Q') { tmps := #[c0, c1, c2, c3, c4, .int .i64 at_, .int .u64 x, c7, c8, c9, c10, c11, c12, c13, c14, c15, c16, c17, c18, c19, c20, c21, c22, c23, c24, c25, c26, c27, c28, c29, c30, c31, .pointer (some ⟨bd, 0, none⟩), c33, c34, c35, c36, c37, c38, c39, c40, c41, c42, c43, c44, c45, c46, c47, c48, c49, c50, c51, c52, c53, c54, c55, c56, c57, c58, c59, c60, c61, c62, c63, c64, c65, c66, c67, c68, c69, c70, c71, c72, c73, c74, c75, c76, c77, c78, c79, c80, c81, c82, c83, c84, c85, c86, c87, c88, c89, c90, c91, c92, c93, c94, c95, c96, c97, c98, c99, c100, c101, c102, c103, c104, c105, c106, c107, c108, c109, c110, c111, c112, c113, c114, c115, c116, c117, c118, c119, c120, c121, c122, c123, c124, c125, c126, c127, c128, c129, c130, c131, c132, c133, c134, c135, c136, c137, c138, c139, c140, c141, c142, c143, c144, c145, c146, c147, c148, c149, c150, c151, c152, c153, c154, c155, c156, c157, c158, c159, c160, c161, c162, c163, c164, c165, c166, c167, c168, c169, c170, c171, c172, c173, c174, c175, c176, c177, c178, c179, c180, c181, c182, c183, c184, c185, c186, c187, c188, c189, c190, c191, c192, c193, c194, c195, c196, c197, c198, c199, c200, c201, c202, c203, c204, c205, c206, c207, c208, c209, c210, c211, c212, c213, c214, c215, c216, c217, c218, c219, c220, c221, c222, c223, c224, c225, c226, c227, c228, c229, c230, c231, c232, c233, c234, c235, c236, c237, c238, c239, c240, c241, c242, c243, c244, c245, c246, c247, c248, c249, c250, c251, c252, c253, c254, c255, c256, c257, c258, c259, c260, c261, c262, c263, c264, c265, c266, c267, c268, c269, c270, c271, c272, c273, c274, c275, c276, c277, c278, c279, c280, c281, c282, c283, c284, c285, c286, c287, c288, c289, c290, c291, c292, c293, c294, c295, c296, c297, c298, c299, c300, c301, c302, c303, c304, c305, c306, c307, c308, c309, c310, c311, c312, c313, c314, c315, c316, c317, c318, c319, c320, c321, c322, c323, c324, c325, c326, c327, c328, c329, c330, c331, c332, c333, c334, c335, c336, c337, c338, c339, c340, c341, c342, c343, c344, c345, c346, c347, c348, c349, c350, c351, c352, c353, c354, c355, c356, c357, c358, c359, c360, c361, c362, c363], defers := [] } w := by
  have CP := Lib.hid (fun w => pick_any at_ 200 w ha.1 ha.2 (by omega))
  have bP := pick_bd (c := at_) (n := 200) (by omega)
  obtain ⟨y, hy⟩ : ∃ y, pickI at_ 200 = y := ⟨_, rfl⟩
  rw [hy] at CP bP
  have HK := Lib.hid hK
  have HO := Lib.hid ho
  have HD := Lib.hid hd
  have u1 : IntKind.u64.wrap y = y := wu64 (by omega) (by omega)
  clear hy hK ho hd ha
  conv => arg 2; whnf
  go_wp2_with (first | (go_at_call 9; refine (CP.out _).mono ?_; rintro e w' ⟨rfl, rfl⟩))
  obtain ⟨W1, hW1⟩ : ∃ W1, w.alloc (.cells #[.int .u64 x, .int .u64 y] 28) = W1 := ⟨_, rfl⟩
  have hB1 : Below w.heap.size w W1 := by rw [← hW1]; exact blk_alloc _ _
  obtain ⟨b1, hb1⟩ : ∃ b1, w.heap.size = b1 := ⟨_, rfl⟩
  have z1 : W1.heap[b1]? = some (.cells #[.int .u64 x, .int .u64 y] 28 (0, 0)) := by rw [← hW1, ← hb1]; exact World.alloc_heap_new _ _
  have HL : Hid (∀ j : Nat, j < 2 → ∀ W, Below W1.heap.size W1 W → ∃ z, W.cell? ⟨b1, j, none⟩ = some (.int .u64 z) ∧ 0 ≤ z ∧ z ≤ 18446744073709551615) := Lib.hid (fun j hj W hB => by
    have hb := (hB.block b1 (Array.getElem?_eq_some_iff.1 z1).1).trans z1
    rcases (show j = 0 ∨ j = 1 by omega) with rfl | rfl
    · exact ⟨x, blk_cell hb rfl, hx.1, hx.2⟩
    · exact ⟨y, blk_cell hb rfl, by omega, by omega⟩)
  have HB1 := Lib.hid hB1
  have hbd := (Array.getElem?_eq_some_iff.1 HD.out).1
  rw [hW1, hb1]
  have HBS := Lib.hid hb1
  clear hB1 hW1 z1 CP u1 bP hx hb1
  go_loopw [135] (fun i wr => ∃ j : Nat, j ≤ 2 ∧ i = .int .i64 j ∧ Hid (Below W1.heap.size W1 wr)) (fun i _ => 2 - (intOf i).toNat)
  case atStart => exact ⟨0, by omega, rfl, Lib.hid (Below.refl _ _)⟩
  case round =>
    obtain ⟨j, hj, rfl, hB⟩ := hrel
    have HBw := Lib.hid (HB1.out.trans (hB.out.mono HB1.out.size))
    by_cases hlt : j = 2
    · subst hlt
      go_wp2
      exact HK.out _ _ _ _ _ _ _ _ _ _ _ _ _ _ _ _ _ _ _ _ _ _ _ _ _ _ _ _ _ _ _ _ _ _ _ _ _ _ HBw.out
    · have hj2 : j < 2 := by omega
      obtain ⟨z, hz, hz0, hz1⟩ := HL.out j hj2 wr hB.out
      have hbox := (HBw.out.block bd (by omega)).trans HD.out
      have d0 := blk_cell hbox (i := 0) (v := .int .i64 k) rfl
      have d1 := blk_cell hbox (i := 1) (v := .int .i64 p) rfl
      have d2 := blk_cell hbox (i := 2) (v := .int .i64 c) rfl
      obtain ⟨s, b, hpl⟩ : ∃ s b, plc (placeB k p c z) z = .tuple #[.int .i64 s, .bool b] := ⟨_, _, rfl⟩
      have C1 := Lib.hid (show ∀ W, Below w.heap.size w W → Calls Tryd.prog 11 #[conf k p c, .int .u64 z] W fun e w' => e = .returned (.tuple #[.int .i64 s, .bool b]) ∧ Below W.heap.size W w' from fun W hW => hpl ▸ wPlace k p c z W (HO.out.below hW) hz0 hz1)
      have C2 := Lib.hid (show ∀ W, Calls Tryd.prog 12 #[conf k p c, .int .u64 z] W fun e w' => e = .returned (.tuple #[.int .i64 s, .bool b]) ∧ Below W.heap.size W w' from fun W => hpl ▸ fPlace k p c z W hz0 hz1)
      clear hpl hlt hj hbox
      go_wp2_with (first | (go_at_call 11; refine (C1.out _ HBw.out).mono ?_; rintro e w1 ⟨rfl, hb⟩; have HB2 := Lib.hid (hB.out.trans (hb.mono hB.out.size)); have HBx := Lib.hid (HBw.out.trans (hb.mono HBw.out.size)); have hbox := (HBx.out.block bd (by omega)).trans HD.out; have d0 := blk_cell hbox (i := 0) (v := .int .i64 k) rfl; have d1 := blk_cell hbox (i := 1) (v := .int .i64 p) rfl; have d2 := blk_cell hbox (i := 2) (v := .int .i64 c) rfl; clear hb hbox) | (go_at_call 12; refine (C2.out _).mono ?_; rintro e w2 ⟨rfl, hb⟩; have HB3 := Lib.hid (HB2.out.trans (hb.mono HB2.out.size)); clear hb))
      go_roundw
      case rel => exact ⟨j + 1, by omega, by go_num, HB3⟩
      case measure => simp [intOf]; omega

end Go.Proofs.YthigfjelgbdcfaaDoor
