/- A part of the law's walk: the middle. -/
import Derived.Deep.Cut
import Derived.Test.YthigfjelgbdcfaaDoorGLwP1
import Derived.Test.YthigfjelgbdcfaaDoorGLwP2
import Derived.Test.YthigfjelgbdcfaaDoorGLwP3
import Derived.Test.YthigfjelgbdcfaaDoorGLwP4
import Derived.Test.YthigfjelgbdcfaaDoorGLwP6

set_option linter.unusedSimpArgs false
set_option linter.unusedVariables false

namespace Go.Proofs.YthigfjelgbdcfaaDoor
open Go.RowKit Go.Maps

/-- what the law's loops stand on -/
structure LawF (at_ x p_ i_ q_ kc pc cc : Int) (bc ba bm N nm nx nz nl na nw ca cm cx cz cl cay cw : Nat) (aa am ax az al ay aw : Option Addr) (A M L Y : List (Int × Int)) (X Z WS : List Int) (w : World) : Prop where
  ho : Objs w
  hat : I64 at_
  hi : I64 i_
  hx : 0 ≤ x ∧ x ≤ 18446744073709551615
  hc : w.heap[bc]? = some (.cells #[.int .i64 kc, .int .i64 pc, .int .i64 cc] 24)
  hf : Fit kc pc cc
  q0 : 0 ≤ q_
  q1 : q_ < pc
  ha : w.heap[ba]? = some (memBox aa N ca)
  hsA : Sl w (.slice aa N ca) N (cls A)
  hA : A.length = N
  hN : (N : Int) = sizeN kc pc cc
  hAo : MemOk A
  hm : w.heap[bm]? = some (memBox am nm cm)
  hsM : Sl w (.slice am nm cm) nm (cls M)
  hM : M.length = nm
  hMo : MemOk M
  hnm : nm ≤ 9223372036854775807
  hcm : nm ≤ cm
  hsX : Sl w (.slice ax nx cx) nx (u64s X)
  hX : X.length = nx
  hXn : nx ≤ 1000000
  hXw : WordsOk X
  hsZ : Sl w (.slice az nz cz) nz (u64s Z)
  hZ : Z.length = nz
  hZn : nz ≤ 1000000
  hZw : WordsOk Z
  hsL : Sl w (.slice al nl cl) nl (wrs L)
  hL : L.length = nl
  hLw : ∀ y ∈ L, (Lit.int .i64 y.1).wf = true
  hsY : Sl w (.slice ay na cay) na (wrs Y)
  hY : Y.length = na
  hYw : ∀ y ∈ Y, (Lit.int .i64 y.1).wf = true
  hna : na ≤ 9223372036854775807
  hcay : na ≤ cay
  hsW : Sl w (.slice aw nw cw) nw (u64s WS)
  hW : WS.length = nw
  hWw : WordsOk WS
  hnw : nw ≤ 9223372036854775807
  hcw : nw ≤ cw
theorem LawF.below {at_ x p_ i_ q_ kc pc cc : Int} {bc ba bm N nm nx nz nl na nw ca cm cx cz cl cay cw : Nat} {aa am ax az al ay aw : Option Addr} {A M L Y : List (Int × Int)} {X Z WS : List Int} {w w' : World} (h : LawF at_ x p_ i_ q_ kc pc cc bc ba bm N nm nx nz nl na nw ca cm cx cz cl cay cw aa am ax az al ay aw A M L Y X Z WS w) (hb : Below w.heap.size w w') : LawF at_ x p_ i_ q_ kc pc cc bc ba bm N nm nx nz nl na nw ca cm cx cz cl cay cw aa am ax az al ay aw A M L Y X Z WS w' :=
  { h with ho := h.ho.below hb, hc := (hb.block _ (Array.getElem?_eq_some_iff.1 h.hc).1).trans h.hc, ha := (hb.block _ (Array.getElem?_eq_some_iff.1 h.ha).1).trans h.ha, hsA := h.hsA.below hb, hm := (hb.block _ (Array.getElem?_eq_some_iff.1 h.hm).1).trans h.hm, hsM := h.hsM.below hb, hsX := h.hsX.below hb, hsZ := h.hsZ.below hb, hsL := h.hsL.below hb, hsY := h.hsY.below hb, hsW := h.hsW.below hb }

set_option linter.unusedSimpArgs false in
set_option linter.unusedVariables false in
set_option maxRecDepth 1000000 in
set_option maxHeartbeats 8000000 in
theorem law_loop {c0 c1 c2 c9 c10 c11 c12 c13 c14 c15 c16 c17 c18 c19 c20 c22 c23 c27 c31 c32 c33 c34 c35 c36 c37 c38 c39 c40 c41 c42 c43 c44 c45 c46 c47 c48 c49 c50 c51 c52 c53 c54 c55 c56 c57 c58 c59 c60 c61 c62 c63 c64 c65 c66 c67 c68 c69 c70 c71 c72 c73 c74 c75 c76 c77 c78 c79 c80 c81 c82 c83 c84 c85 c86 c87 c88 c89 c90 c91 c92 c93 c94 c95 c96 c97 c98 c99 c100 c101 c102 c103 c104 c105 c106 c107 c108 c109 c110 c111 c112 c113 c114 c115 c116 c117 c118 c119 c120 c121 c122 c126 c127 c128 c129 c130 c131 c132 c133 c134 c135 c136 c137 c138 c139 c140 c141 c142 c143 c144 c145 c146 c147 c148 c149 c150 c151 c152 c153 c154 c155 c156 c157 c158 c159 c160 c161 c162 c163 c164 c165 c166 c167 c168 c169 c170 c171 c172 c173 c174 c175 c176 c177 c178 c179 c180 c181 c182 c183 c184 c185 c186 c187 c188 c189 c190 c191 c192 c193 c194 c195 c196 c197 c198 c199 c200 c201 c202 c203 c204 c205 c206 c207 c208 c209 c210 c211 c212 c213 c214 c215 c216 c217 c218 c219 c220 c221 c222 c223 c224 c225 c226 c227 c228 c229 c230 c231 c232 c233 c234 c235 c236 c237 c238 c239 c240 c241 c242 c243 c244 c245 c246 c247 c248 c249 c250 c251 c252 c253 c254 c255 c256 c257 c258 c259 c260 c261 c262 c263 c264 c265 c266 c267 c268 c269 c270 c271 c272 c273 c274 c275 c276 c277 c278 c279 c280 c281 c282 c283 c284 c285 c286 c287 c288 c289 c290 c291 c292 c293 c294 c295 c296 c297 c298 c299 c300 c301 c302 c303 c304 c305 c306 c307 c308 c309 c310 c311 c312 c313 c314 c315 c316 c317 c318 c319 c320 c321 c322 c323 c324 c325 c326 c327 c328 c329 c330 c331 c332 c333 c334 c335 c336 c337 c338 c339 c340 c341 c342 c343 c344 c345 c346 c347 c348 c349 c350 c351 c352 c353 c354 c355 c356 c357 c358 c359 c360 c361 c362 c363 : Value} (at_ x p_ i_ q_ kc pc cc : Int) (bc ba bm N nm nx nz nl na nw ca cm cx cz cl cay cw : Nat) (aa am ax az al ay aw : Option Addr) (A M L Y : List (Int × Int)) (X Z WS : List Int) (b1 : Nat) (w : World) (hF : LawF at_ x p_ i_ q_ kc pc cc bc ba bm N nm nx nz nl na nw ca cm cx cz cl cay cw aa am ax az al ay aw A M L Y X Z WS w) (hl : ∃ ko po co : Int, w.heap[b1]? = some (.cells #[.int .i64 kc, .int .i64 pc, .int .i64 cc, .int .i64 ko, .int .i64 po, .int .i64 co] 24))
    (K : Act → World → Prop) (Q' : Exit → Act → World → Prop) (hK : ∀ (e22 e32 e34 e35 e36 e37 e38 e40 e41 e42 e43 e44 e46 e47 e48 e49 e50 e52 e53 e54 e55 e56 e57 e58 e60 e62 e63 e64 e65 e66 e67 e68 e69 e70 e125 e126 e127 e128 e129 e130 e131 e132 e133 e134 e135 e136 e137 e138 e139 e140 e141 e142 e143 e144 e145 e146 e147 e148 e149 e150 e151 e152 e153 e154 e155 e156 e157 e158 e159 e160 e161 e162 e163 e164 e165 e166 e167 e168 e169 e170 e171 e172 e173 e174 e175 e176 e177 e178 e179 e180 e181 e182 e183 e184 e185 e186 e187 e188 e189 e190 e191 e192 e193 e194 e195 e196 e197 e198 e199 e200 e201 e202 e203 e204 e205 e206 e207 e208 e209 e210 e211 e212 e213 e214 e215 e216 e217 e218 e219 e220 e221 e222 e223 e224 e225 e226 e227 e228 e229 e230 e231 e232 e233 e234 e235 e236 e237 e238 e239 e240 e241 e242 e243 e244 e245 e246 e247 e248 e249 e250 e251 e252 e253 e254 e255 e256 e257 e258 e259 e260 e261 e262 e263 e264 e265 e266 e267 e268 e269 e270 e271 e272 e273 e274 e275 e276 e277 e278 e279 e280 e281 e282 e283 e284 e285 e286 e287 e288 e289 e290 e291 e292 e293 e294 e295 e296 e297 e298 e299 e300 e301 e302 e303 e304 e305 e306 e307 e308 e309 e310 e311 e312 e313 e314 e315 e316 e317 e318 e319 e320 e321 e322 e323 e324 e325 e326 e327 e328 e329 e330 e331 e332 e333 e334 e335 e336 e337 e338 e339 e340 e341 e342 e343 e344 e345 e346 e347 e348 e349 e350 e351 e352 e353 e354 e355 e356 e357 e358 e359 e360 e361 e362 : Value) (w' : World), Below w.heap.size w w' → K { tmps := #[c0, c1, c2, .slice ay na cay, .slice aw nw cw, .int .i64 at_, .int .u64 x, .int .i64 p_, .int .i64 i_, c9, c10, c11, c12, c13, c14, c15, c16, c17, c18, c19, c20, .pointer (some ⟨bm, 0, none⟩), e22, c23, .pointer (some ⟨bc, 0, none⟩), .slice al nl cl, .slice ax nx cx, c27, .slice az nz cz, .int .i64 q_, .pointer (some ⟨ba, 0, none⟩), c31, e32, c33, e34, e35, e36, e37, e38, c39, e40, e41, e42, e43, e44, c45, e46, e47, e48, e49, e50, c51, e52, e53, e54, e55, e56, e57, e58, c59, e60, c61, e62, e63, e64, e65, e66, e67, e68, e69, e70, c71, c72, c73, c74, c75, c76, c77, c78, c79, c80, c81, c82, c83, c84, c85, c86, c87, c88, c89, c90, c91, c92, c93, c94, c95, c96, c97, c98, c99, c100, c101, c102, c103, c104, c105, c106, c107, c108, c109, c110, c111, c112, c113, c114, c115, c116, c117, c118, c119, c120, c121, c122, .slice (some ⟨b1, 0, none⟩) 2 2, .int .i64 2, e125, e126, e127, e128, e129, e130, e131, e132, e133, e134, e135, e136, e137, e138, e139, e140, e141, e142, e143, e144, e145, e146, e147, e148, e149, e150, e151, e152, e153, e154, e155, e156, e157, e158, e159, e160, e161, e162, e163, e164, e165, e166, e167, e168, e169, e170, e171, e172, e173, e174, e175, e176, e177, e178, e179, e180, e181, e182, e183, e184, e185, e186, e187, e188, e189, e190, e191, e192, e193, e194, e195, e196, e197, e198, e199, e200, e201, e202, e203, e204, e205, e206, e207, e208, e209, e210, e211, e212, e213, e214, e215, e216, e217, e218, e219, e220, e221, e222, e223, e224, e225, e226, e227, e228, e229, e230, e231, e232, e233, e234, e235, e236, e237, e238, e239, e240, e241, e242, e243, e244, e245, e246, e247, e248, e249, e250, e251, e252, e253, e254, e255, e256, e257, e258, e259, e260, e261, e262, e263, e264, e265, e266, e267, e268, e269, e270, e271, e272, e273, e274, e275, e276, e277, e278, e279, e280, e281, e282, e283, e284, e285, e286, e287, e288, e289, e290, e291, e292, e293, e294, e295, e296, e297, e298, e299, e300, e301, e302, e303, e304, e305, e306, e307, e308, e309, e310, e311, e312, e313, e314, e315, e316, e317, e318, e319, e320, e321, e322, e323, e324, e325, e326, e327, e328, e329, e330, e331, e332, e333, e334, e335, e336, e337, e338, e339, e340, e341, e342, e343, e344, e345, e346, e347, e348, e349, e350, e351, e352, e353, e354, e355, e356, e357, e358, e359, e360, e361, e362, c363], defers := [] } w') :
    Code.wp Tryd.prog lawL1 (Exit.inBlock 0 (Exit.then K Q')) { tmps := #[c0, c1, c2, .slice ay na cay, .slice aw nw cw, .int .i64 at_, .int .u64 x, .int .i64 p_, .int .i64 i_, c9, c10, c11, c12, c13, c14, c15, c16, c17, c18, c19, c20, .pointer (some ⟨bm, 0, none⟩), c22, c23, .pointer (some ⟨bc, 0, none⟩), .slice al nl cl, .slice ax nx cx, c27, .slice az nz cz, .int .i64 q_, .pointer (some ⟨ba, 0, none⟩), c31, c32, c33, c34, c35, c36, c37, c38, c39, c40, c41, c42, c43, c44, c45, c46, c47, c48, c49, c50, c51, c52, c53, c54, c55, c56, c57, c58, c59, c60, c61, c62, c63, c64, c65, c66, c67, c68, c69, c70, c71, c72, c73, c74, c75, c76, c77, c78, c79, c80, c81, c82, c83, c84, c85, c86, c87, c88, c89, c90, c91, c92, c93, c94, c95, c96, c97, c98, c99, c100, c101, c102, c103, c104, c105, c106, c107, c108, c109, c110, c111, c112, c113, c114, c115, c116, c117, c118, c119, c120, c121, c122, .slice (some ⟨b1, 0, none⟩) 2 2, .int .i64 2, .int .i64 0, c126, c127, c128, c129, c130, c131, c132, c133, c134, c135, c136, c137, c138, c139, c140, c141, c142, c143, c144, c145, c146, c147, c148, c149, c150, c151, c152, c153, c154, c155, c156, c157, c158, c159, c160, c161, c162, c163, c164, c165, c166, c167, c168, c169, c170, c171, c172, c173, c174, c175, c176, c177, c178, c179, c180, c181, c182, c183, c184, c185, c186, c187, c188, c189, c190, c191, c192, c193, c194, c195, c196, c197, c198, c199, c200, c201, c202, c203, c204, c205, c206, c207, c208, c209, c210, c211, c212, c213, c214, c215, c216, c217, c218, c219, c220, c221, c222, c223, c224, c225, c226, c227, c228, c229, c230, c231, c232, c233, c234, c235, c236, c237, c238, c239, c240, c241, c242, c243, c244, c245, c246, c247, c248, c249, c250, c251, c252, c253, c254, c255, c256, c257, c258, c259, c260, c261, c262, c263, c264, c265, c266, c267, c268, c269, c270, c271, c272, c273, c274, c275, c276, c277, c278, c279, c280, c281, c282, c283, c284, c285, c286, c287, c288, c289, c290, c291, c292, c293, c294, c295, c296, c297, c298, c299, c300, c301, c302, c303, c304, c305, c306, c307, c308, c309, c310, c311, c312, c313, c314, c315, c316, c317, c318, c319, c320, c321, c322, c323, c324, c325, c326, c327, c328, c329, c330, c331, c332, c333, c334, c335, c336, c337, c338, c339, c340, c341, c342, c343, c344, c345, c346, c347, c348, c349, c350, c351, c352, c353, c354, c355, c356, c357, c358, c359, c360, c361, c362, c363], defers := [] } w := by
  obtain ⟨ko, po, co, hl⟩ := hl
  have HK := Lib.hid hK
  have HF := Lib.hid hF
  have HL : Hid (∀ j : Nat, j < 2 → ∀ W, Below w.heap.size w W → ∃ k p c, W.cell? ⟨b1, j * 3, none⟩ = some (.int .i64 k) ∧ W.cell? ⟨b1, j * 3 + 1, none⟩ = some (.int .i64 p) ∧ W.cell? ⟨b1, j * 3 + 2, none⟩ = some (.int .i64 c)) := Lib.hid (fun j hj W hB => by
    have hb := (hB.block b1 (Array.getElem?_eq_some_iff.1 hl).1).trans hl
    rcases (show j = 0 ∨ j = 1 by omega) with rfl | rfl
    · exact ⟨_, _, _, blk_cell hb rfl, blk_cell hb rfl, blk_cell hb rfl⟩
    · exact ⟨_, _, _, blk_cell hb rfl, blk_cell hb rfl, blk_cell hb rfl⟩)
  clear hK hF hl
  conv => arg 2; whnf
  dsimp only
  go_loopw [125] (fun i wr => ∃ j : Nat, j ≤ 2 ∧ i = .int .i64 j ∧ Hid (Below w.heap.size w wr)) (fun i _ => 2 - (intOf i).toNat)
  case atStart => exact ⟨0, by omega, rfl, Lib.hid (Below.refl _ _)⟩
  case round =>
    obtain ⟨j, hj, rfl, hB⟩ := hrel
    by_cases hlt : j = 2
    · subst hlt
      go_wp2
      exact HK.out _ _ _ _ _ _ _ _ _ _ _ _ _ _ _ _ _ _ _ _ _ _ _ _ _ _ _ _ _ _ _ _ _ _ _ _ _ _ _ _ _ _ _ _ _ _ _ _ _ _ _ _ _ _ _ _ _ _ _ _ _ _ _ _ _ _ _ _ _ _ _ _ _ _ _ _ _ _ _ _ _ _ _ _ _ _ _ _ _ _ _ _ _ _ _ _ _ _ _ _ _ _ _ _ _ _ _ _ _ _ _ _ _ _ _ _ _ _ _ _ _ _ _ _ _ _ _ _ _ _ _ _ _ _ _ _ _ _ _ _ _ _ _ _ _ _ _ _ _ _ _ _ _ _ _ _ _ _ _ _ _ _ _ _ _ _ _ _ _ _ _ _ _ _ _ _ _ _ _ _ _ _ _ _ _ _ _ _ _ _ _ _ _ _ _ _ _ _ _ _ _ _ _ _ _ _ _ _ _ _ _ _ _ _ _ _ _ _ _ _ _ _ _ _ _ _ _ _ _ _ _ _ _ _ _ _ _ _ _ _ _ _ _ _ _ _ _ _ _ _ _ _ _ _ _ _ _ _ _ _ _ _ _ _ _ _ _ _ _ _ _ _ _ hB.out
    · have hj2 : j < 2 := by omega
      obtain ⟨k, p, c, z0, z1, z2⟩ := HL.out j hj2 wr hB.out
      clear hlt hj
      go_upto_region 14 with fail
      refine Code.wp_mono (Q := fun e a w' => e = .normal ∧ a = { tmps := #[c0, c1, c2, .slice ay na cay, .slice aw nw cw, .int .i64 at_, .int .u64 x, .int .i64 p_, .int .i64 i_, c9, c10, c11, c12, c13, c14, c15, c16, c17, c18, c19, c20, .pointer (some ⟨bm, 0, none⟩), u22, c23, .pointer (some ⟨bc, 0, none⟩), .slice al nl cl, .slice ax nx cx, c27, .slice az nz cz, .int .i64 q_, .pointer (some ⟨ba, 0, none⟩), c31, .pointer (some ⟨wr.heap.size, 0, none⟩), c33, u34, u35, u36, u37, u38, c39, u40, u41, u42, u43, u44, c45, u46, u47, u48, u49, u50, c51, u52, u53, u54, u55, u56, u57, u58, c59, u60, c61, u62, u63, u64, u65, u66, u67, u68, u69, u70, c71, c72, c73, c74, c75, c76, c77, c78, c79, c80, c81, c82, c83, c84, c85, c86, c87, c88, c89, c90, c91, c92, c93, c94, c95, c96, c97, c98, c99, c100, c101, c102, c103, c104, c105, c106, c107, c108, c109, c110, c111, c112, c113, c114, c115, c116, c117, c118, c119, c120, c121, c122, .slice (some ⟨b1, 0, none⟩) 2 2, .int .i64 2, .int .i64 j, .bool (decide ((j : Int) < 2)), .pointer (some ⟨b1, j * 3, none⟩), conf k p c, u129, u130, u131, u132, u133, u134, u135, u136, u137, u138, u139, u140, u141, u142, u143, u144, u145, u146, u147, u148, u149, u150, u151, u152, u153, u154, u155, u156, u157, u158, u159, u160, u161, u162, u163, u164, u165, u166, u167, u168, u169, u170, u171, u172, u173, u174, u175, u176, u177, u178, u179, u180, u181, u182, u183, u184, u185, u186, u187, u188, u189, u190, u191, u192, u193, u194, u195, u196, u197, u198, u199, u200, u201, u202, u203, u204, u205, u206, u207, u208, u209, u210, u211, u212, u213, u214, u215, u216, u217, u218, u219, u220, u221, u222, u223, u224, u225, u226, u227, u228, u229, u230, u231, u232, u233, u234, u235, u236, u237, u238, u239, u240, u241, u242, u243, u244, u245, u246, u247, u248, u249, u250, u251, u252, u253, u254, u255, u256, u257, u258, u259, u260, u261, u262, u263, u264, u265, u266, u267, u268, u269, u270, u271, u272, u273, u274, u275, u276, u277, u278, u279, u280, u281, u282, u283, u284, u285, u286, u287, u288, u289, u290, u291, u292, u293, u294, u295, u296, u297, u298, u299, u300, u301, u302, u303, u304, u305, u306, u307, u308, u309, u310, u311, u312, u313, u314, u315, u316, u317, u318, u319, u320, u321, u322, u323, u324, u325, u326, u327, u328, u329, u330, u331, u332, u333, u334, u335, u336, u337, u338, u339, u340, u341, u342, u343, u344, u345, u346, u347, u348, u349, u350, u351, u352, u353, u354, u355, u356, u357, u358, u359, u360, u361, u362, c363], defers := [] } ∧ w' = wr.alloc (.cells #[.int .i64 k, .int .i64 p, .int .i64 c] 24)) ?nx ?fs
      case fs =>
        go_wp2
        exact ⟨rfl, rfl, rfl⟩
      case nx =>
        rename_i Kz hKz
        rintro e a2 w2 ⟨rfl, rfl, rfl⟩
        refine hKz _ _ ?_
        have HB1 := Lib.hid (hB.out.trans ((blk_alloc wr (.cells #[.int .i64 k, .int .i64 p, .int .i64 c] 24)).mono hB.out.size))
        have HD := Lib.hid (World.alloc_heap_new wr (.cells #[.int .i64 k, .int .i64 p, .int .i64 c] 24))
        have F := Lib.hid (HF.out.below HB1.out)
        generalize hW2 : wr.alloc (.cells #[.int .i64 k, .int .i64 p, .int .i64 c] 24) = w2 at *
        generalize hbd : wr.heap.size = bd at *
        refine wp_seq ?_
        refine law_places k p c at_ x bd w2 F.out.ho HD.out F.out.hat F.out.hx _ _ ?_
        intro e22 e34 e35 e36 e37 e38 e129 e130 e131 e132 e133 e134 e135 e136 e137 e138 e139 e140 e141 e142 e143 e144 e145 e146 e147 e148 e149 e150 e151 e152 e153 e154 e155 e156 e157 e158 e159 w3 hb
        have HB2 := Lib.hid (HB1.out.trans (hb.mono HB1.out.size))
        have F := Lib.hid (HF.out.below HB2.out)
        have HD := Lib.hid ((hb.block _ (Array.getElem?_eq_some_iff.1 HD.out).1).trans HD.out)
        have hd := HD.out
        clear hb
        refine wp_seq ?_
        refine law_packs k p c ay al na nl cay cl L Y bd w3 F.out.ho hd F.out.hsL F.out.hL F.out.hLw F.out.hsY F.out.hY F.out.hYw F.out.hna F.out.hcay _ _ ?_
        intro e22 e40 e41 e42 e43 e44 e160 e161 e162 e163 e164 e165 e166 e167 e168 e169 e170 e171 e172 e173 e174 e175 e176 e177 e178 e179 e180 e181 e182 e183 e184 e185 e186 e187 e188 e189 e190 e191 e192 e193 w4 hb
        have HB3 := Lib.hid (HB2.out.trans (hb.mono HB2.out.size))
        have F := Lib.hid (HF.out.below HB3.out)
        have HD := Lib.hid ((hb.block _ (Array.getElem?_eq_some_iff.1 HD.out).1).trans HD.out)
        have hd := HD.out
        clear hb
        refine wp_seq ?_
        refine law_unpacks k p c aw ax az nw nx nz cw cx cz X WS Z bd w4 F.out.ho hd F.out.hsX F.out.hX F.out.hXw F.out.hsZ F.out.hZ F.out.hZw F.out.hsW F.out.hW F.out.hWw F.out.hnw F.out.hcw _ _ ?_
        intro e22 e46 e47 e48 e49 e50 e194 e195 e196 e197 e198 e199 e200 e201 e202 e203 e204 e205 e206 e207 e208 e209 e210 e211 e212 e213 e214 e215 e216 e217 e218 e219 e220 e221 e222 e223 e224 e225 e226 e227 e228 w5 hb
        have HB4 := Lib.hid (HB3.out.trans (hb.mono HB3.out.size))
        have F := Lib.hid (HF.out.below HB4.out)
        have HD := Lib.hid ((hb.block _ (Array.getElem?_eq_some_iff.1 HD.out).1).trans HD.out)
        have hd := HD.out
        clear hb
        refine wp_seq ?_
        refine law_spots k p c p_ i_ q_ bd w5 F.out.ho hd F.out.hi _ _ ?_
        intro e22 e52 e53 e54 e55 e56 e57 e58 e229 e230 e231 e232 e233 e234 e235 e236 e237 e238 e239 e240 e241 e242 e243 e244 e245 e246 e247 e248 e249 e250 e251 e252 e253 e254 e255 e256 e257 e258 e259 e260 e261 e262 e263 e264 e265 e266 e267 e268 e269 e270 e271 e272 e273 e274 e275 e276 e277 e278 w6 hb
        have HB5 := Lib.hid (HB4.out.trans (hb.mono HB4.out.size))
        have F := Lib.hid (HF.out.below HB5.out)
        have HD := Lib.hid ((hb.block _ (Array.getElem?_eq_some_iff.1 HD.out).1).trans HD.out)
        have hd := HD.out
        clear hb
        refine law_mems k p c kc pc cc p_ q_ bd bc ba bm N nm nx nz ca cm cx cz aa am ax az A M X Z w6 F.out.ho hd F.out.hc F.out.hf F.out.q0 F.out.q1 F.out.ha F.out.hsA F.out.hA F.out.hN F.out.hAo F.out.hm F.out.hsM F.out.hM F.out.hMo F.out.hnm F.out.hcm F.out.hsX F.out.hX F.out.hXn F.out.hXw F.out.hsZ F.out.hZ F.out.hZn F.out.hZw _ _ ?_
        intro e22 e60 e62 e63 e64 e65 e66 e67 e68 e69 e70 e279 e280 e281 e282 e283 e284 e285 e286 e287 e288 e289 e290 e291 e292 e293 e294 e295 e296 e297 e298 e299 e300 e301 e302 e303 e304 e305 e306 e307 e308 e309 e310 e311 e312 e313 e314 e315 e316 e317 e318 e319 e320 e321 e322 e323 e324 e325 e326 e327 e328 e329 e330 e331 e332 e333 e334 e335 e336 e337 e338 e339 e340 e341 e342 e343 e344 e345 e346 e347 e348 e349 e350 e351 e352 e353 e354 e355 e356 e357 e358 e359 e360 e361 w7 hb
        have HB6 := Lib.hid (HB5.out.trans (hb.mono HB5.out.size))
        clear hb hd
        go_wp2
        go_roundw
        case rel => exact ⟨j + 1, by omega, by go_num, HB6⟩
        case measure => simp [intOf]; omega

end Go.Proofs.YthigfjelgbdcfaaDoor
