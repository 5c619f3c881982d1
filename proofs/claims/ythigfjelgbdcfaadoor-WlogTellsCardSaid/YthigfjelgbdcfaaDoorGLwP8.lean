/- The law's function returns true for every input whose slices read as lists of their types, and leaves the caller's memory as it was. -/
import Derived.Test.YthigfjelgbdcfaaDoorGLwP7

set_option linter.unusedSimpArgs false
set_option linter.unusedVariables false

namespace Go.Proofs.YthigfjelgbdcfaaDoor
open Go.RowKit Go.Maps

set_option linter.unusedSimpArgs false in
set_option linter.unusedVariables false in
set_option maxRecDepth 1000000 in
set_option maxHeartbeats 8000000 in
theorem law_end {c0 c1 c2 c9 c10 c11 c13 c14 c15 c16 c17 c18 c19 c20 c22 c27 c31 c32 c33 c34 c35 c36 c37 c38 c39 c40 c41 c42 c43 c44 c45 c46 c47 c48 c49 c50 c51 c52 c53 c54 c55 c56 c57 c58 c59 c60 c61 c62 c63 c64 c65 c66 c67 c68 c69 c70 c71 c72 c73 c74 c75 c76 c77 c78 c79 c80 c81 c82 c83 c84 c85 c86 c87 c88 c89 c90 c91 c92 c93 c94 c95 c96 c97 c98 c99 c100 c101 c102 c103 c104 c105 c106 c107 c108 c109 c110 c111 c112 c113 c114 c115 c116 c117 c118 c119 c120 c121 c122 c123 c124 c125 c126 c127 c128 c129 c130 c131 c132 c133 c134 c135 c136 c137 c138 c139 c140 c141 c142 c143 c144 c145 c146 c147 c148 c149 c150 c151 c152 c153 c154 c155 c156 c157 c158 c159 c160 c161 c162 c163 c164 c165 c166 c167 c168 c169 c170 c171 c172 c173 c174 c175 c176 c177 c178 c179 c180 c181 c182 c183 c184 c185 c186 c187 c188 c189 c190 c191 c192 c193 c194 c195 c196 c197 c198 c199 c200 c201 c202 c203 c204 c205 c206 c207 c208 c209 c210 c211 c212 c213 c214 c215 c216 c217 c218 c219 c220 c221 c222 c223 c224 c225 c226 c227 c228 c229 c230 c231 c232 c233 c234 c235 c236 c237 c238 c239 c240 c241 c242 c243 c244 c245 c246 c247 c248 c249 c250 c251 c252 c253 c254 c255 c256 c257 c258 c259 c260 c261 c262 c263 c264 c265 c266 c267 c268 c269 c270 c271 c272 c273 c274 c275 c276 c277 c278 c279 c280 c281 c282 c283 c284 c285 c286 c287 c288 c289 c290 c291 c292 c293 c294 c295 c296 c297 c298 c299 c300 c301 c302 c303 c304 c305 c306 c307 c308 c309 c310 c311 c312 c313 c314 c315 c316 c317 c318 c319 c320 c321 c322 c323 c324 c325 c326 c327 c328 c329 c330 c331 c332 c333 c334 c335 c336 c337 c338 c339 c340 c341 c342 c343 c344 c345 c346 c347 c348 c349 c350 c351 c352 c353 c354 c355 c356 c357 c358 c359 c360 c361 c362 c363 : Value} (at_ x p_ i_ q_ kc pc cc : Int) (bc ba bm N nm nx nz nl na nw ca cm cx cz cl cay cw : Nat) (aa am ax az al ay aw : Option Addr) (A M L Y : List (Int × Int)) (X Z WS : List Int) (bo : Nat) (ko po co : Int) (w0 w : World) (hB : Below w0.heap.size w0 w) (hF : LawF at_ x p_ i_ q_ kc pc cc bc ba bm N nm nx nz nl na nw ca cm cx cz cl cay cw aa am ax az al ay aw A M L Y X Z WS w) (hbo : w.heap[bo]? = some (.cells #[.int .i64 ko, .int .i64 po, .int .i64 co] 24)) :
    Code.wp Tryd.prog lawEnd (bodyPost Tryd.prog Tryd.f3 (fun e w' => e = .returned (.bool true) ∧ Below w0.heap.size w0 w')) { tmps := #[c0, c1, c2, .slice ay na cay, .slice aw nw cw, .int .i64 at_, .int .u64 x, .int .i64 p_, .int .i64 i_, c9, c10, c11, .pointer (some ⟨bo, 0, none⟩), c13, c14, c15, c16, c17, c18, c19, c20, .pointer (some ⟨bm, 0, none⟩), c22, .bool true, .pointer (some ⟨bc, 0, none⟩), .slice al nl cl, .slice ax nx cx, c27, .slice az nz cz, .int .i64 q_, .pointer (some ⟨ba, 0, none⟩), c31, c32, c33, c34, c35, c36, c37, c38, c39, c40, c41, c42, c43, c44, c45, c46, c47, c48, c49, c50, c51, c52, c53, c54, c55, c56, c57, c58, c59, c60, c61, c62, c63, c64, c65, c66, c67, c68, c69, c70, c71, c72, c73, c74, c75, c76, c77, c78, c79, c80, c81, c82, c83, c84, c85, c86, c87, c88, c89, c90, c91, c92, c93, c94, c95, c96, c97, c98, c99, c100, c101, c102, c103, c104, c105, c106, c107, c108, c109, c110, c111, c112, c113, c114, c115, c116, c117, c118, c119, c120, c121, c122, c123, c124, c125, c126, c127, c128, c129, c130, c131, c132, c133, c134, c135, c136, c137, c138, c139, c140, c141, c142, c143, c144, c145, c146, c147, c148, c149, c150, c151, c152, c153, c154, c155, c156, c157, c158, c159, c160, c161, c162, c163, c164, c165, c166, c167, c168, c169, c170, c171, c172, c173, c174, c175, c176, c177, c178, c179, c180, c181, c182, c183, c184, c185, c186, c187, c188, c189, c190, c191, c192, c193, c194, c195, c196, c197, c198, c199, c200, c201, c202, c203, c204, c205, c206, c207, c208, c209, c210, c211, c212, c213, c214, c215, c216, c217, c218, c219, c220, c221, c222, c223, c224, c225, c226, c227, c228, c229, c230, c231, c232, c233, c234, c235, c236, c237, c238, c239, c240, c241, c242, c243, c244, c245, c246, c247, c248, c249, c250, c251, c252, c253, c254, c255, c256, c257, c258, c259, c260, c261, c262, c263, c264, c265, c266, c267, c268, c269, c270, c271, c272, c273, c274, c275, c276, c277, c278, c279, c280, c281, c282, c283, c284, c285, c286, c287, c288, c289, c290, c291, c292, c293, c294, c295, c296, c297, c298, c299, c300, c301, c302, c303, c304, c305, c306, c307, c308, c309, c310, c311, c312, c313, c314, c315, c316, c317, c318, c319, c320, c321, c322, c323, c324, c325, c326, c327, c328, c329, c330, c331, c332, c333, c334, c335, c336, c337, c338, c339, c340, c341, c342, c343, c344, c345, c346, c347, c348, c349, c350, c351, c352, c353, c354, c355, c356, c357, c358, c359, c360, c361, c362, c363], defers := [] } w := by
  have HF := Lib.hid hF
  have y0 := blk_cell hF.hc (i := 0) (v := .int .i64 kc) rfl
  have y1 := blk_cell hF.hc (i := 1) (v := .int .i64 pc) rfl
  have y2 := blk_cell hF.hc (i := 2) (v := .int .i64 cc) rfl
  have o0 := blk_cell hbo (i := 0) (v := .int .i64 ko) rfl
  have o1 := blk_cell hbo (i := 1) (v := .int .i64 po) rfl
  have o2 := blk_cell hbo (i := 2) (v := .int .i64 co) rfl
  have HB := Lib.hid hB
  obtain ⟨W1, hW1⟩ : ∃ W1, w.alloc (.cells #[.int .i64 kc, .int .i64 pc, .int .i64 cc, .int .i64 ko, .int .i64 po, .int .i64 co] 24) = W1 := ⟨_, rfl⟩
  have HB1 := Lib.hid (show Below w.heap.size w W1 from by rw [← hW1]; exact blk_alloc _ _)
  have Z1 := Lib.hid (show W1.heap[w.heap.size]? = some (.cells #[.int .i64 kc, .int .i64 pc, .int .i64 cc, .int .i64 ko, .int .i64 po, .int .i64 co] 24 (0, 0)) from by rw [← hW1]; exact World.alloc_heap_new _ _)
  have HW1 := Lib.hid hW1
  clear hF hbo hB hW1
  conv => arg 2; whnf
  go_wp2_with fail
  rw [HW1.out]
  refine law_loop at_ x p_ i_ q_ kc pc cc bc ba bm N nm nx nz nl na nw ca cm cx cz cl cay cw aa am ax az al ay aw A M L Y X Z WS w.heap.size W1 (HF.out.below HB1.out) ⟨ko, po, co, Z1.out⟩ _ _ ?_
  intro e22 e32 e34 e35 e36 e37 e38 e40 e41 e42 e43 e44 e46 e47 e48 e49 e50 e52 e53 e54 e55 e56 e57 e58 e60 e62 e63 e64 e65 e66 e67 e68 e69 e70 e125 e126 e127 e128 e129 e130 e131 e132 e133 e134 e135 e136 e137 e138 e139 e140 e141 e142 e143 e144 e145 e146 e147 e148 e149 e150 e151 e152 e153 e154 e155 e156 e157 e158 e159 e160 e161 e162 e163 e164 e165 e166 e167 e168 e169 e170 e171 e172 e173 e174 e175 e176 e177 e178 e179 e180 e181 e182 e183 e184 e185 e186 e187 e188 e189 e190 e191 e192 e193 e194 e195 e196 e197 e198 e199 e200 e201 e202 e203 e204 e205 e206 e207 e208 e209 e210 e211 e212 e213 e214 e215 e216 e217 e218 e219 e220 e221 e222 e223 e224 e225 e226 e227 e228 e229 e230 e231 e232 e233 e234 e235 e236 e237 e238 e239 e240 e241 e242 e243 e244 e245 e246 e247 e248 e249 e250 e251 e252 e253 e254 e255 e256 e257 e258 e259 e260 e261 e262 e263 e264 e265 e266 e267 e268 e269 e270 e271 e272 e273 e274 e275 e276 e277 e278 e279 e280 e281 e282 e283 e284 e285 e286 e287 e288 e289 e290 e291 e292 e293 e294 e295 e296 e297 e298 e299 e300 e301 e302 e303 e304 e305 e306 e307 e308 e309 e310 e311 e312 e313 e314 e315 e316 e317 e318 e319 e320 e321 e322 e323 e324 e325 e326 e327 e328 e329 e330 e331 e332 e333 e334 e335 e336 e337 e338 e339 e340 e341 e342 e343 e344 e345 e346 e347 e348 e349 e350 e351 e352 e353 e354 e355 e356 e357 e358 e359 e360 e361 e362 w7 hb
  have HBf := Lib.hid (HB.out.trans ((HB1.out.trans (hb.mono HB1.out.size)).mono HB.out.size))
  clear hb y0 y1 y2 o0 o1 o2
  go_wp2
  go_ret
  exact ⟨rfl, HBf.out⟩

end Go.Proofs.YthigfjelgbdcfaaDoor

namespace Go.Proofs.YthigfjelgbdcfaaDoor
open Go.RowKit Go.Maps

theorem SlI.below {s : Nat} {w w' : World} {v : Value} {n : Nat} (h : SlI s w v n) (hb : Below w.heap.size w w') : SlI s w' v n := by
  obtain ⟨a, cap, rfl, h⟩ := h
  refine ⟨a, cap, rfl, fun h0 => ?_⟩
  obtain ⟨b, o, rfl, h1, h2⟩ := h h0
  refine ⟨b, o, rfl, Nat.lt_of_lt_of_le h1 hb.size, fun j hj => ?_⟩
  obtain ⟨x, h3, h4⟩ := h2 j hj
  exact ⟨x, (hb.cell (p := ⟨b, o + j, none⟩) h1).trans h3, h4⟩
theorem owns_put1 {w : World} {base g cap N j : Nat} {e : TypeId} {xs : List Value} {u : Value} (h : w.ownsRow base e 1 (.slice (some ⟨g, 0, none⟩) N cap) N xs) (hj : j < N) :
    (w.setCell ⟨g, j, none⟩ u).ownsRow base e 1 (.slice (some ⟨g, 0, none⟩) N cap) N (xs.set j u) := by
  refine ⟨by rw [List.length_set]; exact h.1, ?_⟩
  rcases h.2 with ⟨h0, _⟩ | ⟨g', cap', cur, hv, h1, h2, h3, h4, h5, h6⟩
  · cases h0
  · cases hv
    refine .inr ⟨g, cap, cur.setIfInBounds j u, rfl, h1, blk_set h2 u, h3, h4, by simpa using h5, ?_⟩
    rw [Array.toList_setIfInBounds, List.take_set, h6]
theorem owns_cell1 {w : World} {base g cap N j : Nat} {e : TypeId} {xs : List Value} (h : w.ownsRow base e 1 (.slice (some ⟨g, 0, none⟩) N cap) N xs) (hj : j < N) :
    (∃ u, w.cell? ⟨g, j, none⟩ = some u) ∧ w.frozen? ⟨g, j, none⟩ = false ∧ base ≤ g ∧ g < w.heap.size := by
  have hl := h.1
  refine ⟨⟨xs[j]'(by omega), ?_⟩, ?_⟩
  · have := h.cells (g := g) rfl j _ (List.getElem?_eq_getElem (by omega))
    rw [add_at] at this
    simpa using this
  · rcases h.2 with ⟨h0, _⟩ | ⟨g', cap', cur, hv, h1, h2, h3⟩
    · cases h0
    · cases hv
      exact ⟨blk_frozen h2, h1, (Array.getElem?_eq_some_iff.1 h2).1⟩
theorem packR_words {k p c : Int} {l : List (Int × Int)} (h : WritesOk l) (hl : l.length ≤ 1000) : WordsOk (packR k p c l).1 := by
  have hpk : ∀ l : List (Int × Int), WritesOk l → WordsOk (pk l) := by
    intro l
    induction l with
    | nil => intro _ x hx; simp [pk] at hx
    | cons y r ih =>
      intro hw x hx
      simp only [pk, List.mem_cons] at hx
      rcases hx with rfl | rfl | hx
      · exact wu_bd _
      · exact (hw y (by simp)).2
      · exact ih (fun z hz => hw z (by simp [hz])) x hx
  unfold packR
  split
  · split
    · intro x hx; simp at hx
    · split
      · intro x hx
        simp only [packW, List.cons_append, List.mem_cons, List.mem_append] at hx
        rcases hx with rfl | hx | hx
        · omega
        · exact hpk l h x hx
        · rw [List.eq_of_mem_replicate hx]; omega
      · intro x hx; simp at hx
  · intro x hx; simp at hx
theorem wordsOk_set {l : List Int} (h : WordsOk l) (j : Nat) {x : Int} (hx : 0 ≤ x ∧ x ≤ 18446744073709551615) : WordsOk (l.set j x) := by
  intro y hy
  rcases List.mem_or_eq_of_mem_set hy with h1 | h1
  · exact h y h1
  · rw [h1]; exact hx
/-- what stands behind the law's first statements -/
structure MidF (at_ x p_ i_ kc pc cc ko po co : Int) (bc bo bm nm na nw nr ne cm cay cw cr ce : Nat) (am ay aw ar ae : Option Addr) (M Y : List (Int × Int)) (WS : List Int) (w : World) : Prop where
  ho : Objs w
  hat : I64 at_
  hi : I64 i_
  hp : I64 p_
  hx : 0 ≤ x ∧ x ≤ 18446744073709551615
  hc : w.heap[bc]? = some (.cells #[.int .i64 kc, .int .i64 pc, .int .i64 cc] 24)
  hf : Fit kc pc cc
  hp4 : pc ≤ 4
  hbo : w.heap[bo]? = some (.cells #[.int .i64 ko, .int .i64 po, .int .i64 co] 24)
  hm : w.heap[bm]? = some (memBox am nm cm)
  hsM : Sl w (.slice am nm cm) nm (cls M)
  hM : M.length = nm
  hMo : MemOk M
  hnm : nm ≤ 9223372036854775807
  hcm : nm ≤ cm
  hsY : Sl w (.slice ay na cay) na (wrs Y)
  hY : Y.length = na
  hYw : ∀ y ∈ Y, (Lit.int .i64 y.1).wf = true
  hna : na ≤ 9223372036854775807
  hcay : na ≤ cay
  hsW : Sl w (.slice aw nw cw) nw (u64s WS)
  hW : WS.length = nw
  hWw : WordsOk WS
  hnw : nw ≤ 9223372036854775807
  hcw : nw ≤ cw
  hr : SlI 2 w (.slice ar nr cr) nr
  hnr : nr ≤ 9223372036854775807
  he : SlI 3 w (.slice ae ne ce) ne
theorem MidF.below {at_ x p_ i_ kc pc cc ko po co : Int} {bc bo bm nm na nw nr ne cm cay cw cr ce : Nat} {am ay aw ar ae : Option Addr} {M Y : List (Int × Int)} {WS : List Int} {w w' : World} (h : MidF at_ x p_ i_ kc pc cc ko po co bc bo bm nm na nw nr ne cm cay cw cr ce am ay aw ar ae M Y WS w) (hb : Below w.heap.size w w') : MidF at_ x p_ i_ kc pc cc ko po co bc bo bm nm na nw nr ne cm cay cw cr ce am ay aw ar ae M Y WS w' :=
  { h with ho := h.ho.below hb, hc := (hb.block _ (Array.getElem?_eq_some_iff.1 h.hc).1).trans h.hc, hbo := (hb.block _ (Array.getElem?_eq_some_iff.1 h.hbo).1).trans h.hbo, hm := (hb.block _ (Array.getElem?_eq_some_iff.1 h.hm).1).trans h.hm, hsM := h.hsM.below hb, hsY := h.hsY.below hb, hsW := h.hsW.below hb, hr := h.hr.below hb, he := h.he.below hb }

set_option linter.unusedSimpArgs false in
set_option linter.unusedVariables false in
set_option maxRecDepth 1000000 in
set_option maxHeartbeats 8000000 in
theorem law_mid {c0 c1 c10 c11 c13 c14 c15 c16 c17 c18 c19 c20 c22 c25 c26 c27 c28 c29 c30 c31 c32 c33 c34 c35 c36 c37 c38 c39 c40 c41 c42 c43 c44 c45 c46 c47 c48 c49 c50 c51 c52 c53 c54 c55 c56 c57 c58 c59 c60 c61 c62 c63 c64 c65 c66 c67 c68 c69 c70 c71 c72 c73 c74 c75 c76 c77 c78 c79 c80 c81 c82 c83 c84 c85 c86 c87 c88 c89 c90 c91 c92 c93 c94 c95 c96 c97 c98 c99 c100 c101 c102 c103 c104 c105 c106 c107 c108 c109 c110 c111 c112 c113 c114 c115 c116 c117 c118 c119 c120 c121 c122 c123 c124 c125 c126 c127 c128 c129 c130 c131 c132 c133 c134 c135 c136 c137 c138 c139 c140 c141 c142 c143 c144 c145 c146 c147 c148 c149 c150 c151 c152 c153 c154 c155 c156 c157 c158 c159 c160 c161 c162 c163 c164 c165 c166 c167 c168 c169 c170 c171 c172 c173 c174 c175 c176 c177 c178 c179 c180 c181 c182 c183 c184 c185 c186 c187 c188 c189 c190 c191 c192 c193 c194 c195 c196 c197 c198 c199 c200 c201 c202 c203 c204 c205 c206 c207 c208 c209 c210 c211 c212 c213 c214 c215 c216 c217 c218 c219 c220 c221 c222 c223 c224 c225 c226 c227 c228 c229 c230 c231 c232 c233 c234 c235 c236 c237 c238 c239 c240 c241 c242 c243 c244 c245 c246 c247 c248 c249 c250 c251 c252 c253 c254 c255 c256 c257 c258 c259 c260 c261 c262 c263 c264 c265 c266 c267 c268 c269 c270 c271 c272 c273 c274 c275 c276 c277 c278 c279 c280 c281 c282 c283 c284 c285 c286 c287 c288 c289 c290 c291 c292 c293 c294 c295 c296 c297 c298 c299 c300 c301 c302 c303 c304 c305 c306 c307 c308 c309 c310 c311 c312 c313 c314 c315 c316 c317 c318 c319 c320 c321 c322 c323 c324 c325 c326 c327 c328 c329 c330 c331 c332 c333 c334 c335 c336 c337 c338 c339 c340 c341 c342 c343 c344 c345 c346 c347 c348 c349 c350 c351 c352 c353 c354 c355 c356 c357 c358 c359 c360 c361 c362 c363 : Value} (at_ x p_ i_ kc pc cc ko po co : Int) (bc bo bm nm na nw nr ne cm cay cw cr ce : Nat) (am ay aw ar ae : Option Addr) (M Y : List (Int × Int)) (WS : List Int) (w0 w : World) (hB : Below w0.heap.size w0 w) (hF : MidF at_ x p_ i_ kc pc cc ko po co bc bo bm nm na nw nr ne cm cay cw cr ce am ay aw ar ae M Y WS w) :
    Code.wp Tryd.prog lawMid (bodyPost Tryd.prog Tryd.f3 (fun e w' => e = .returned (.bool true) ∧ Below w0.heap.size w0 w')) { tmps := #[c0, c1, .slice ar nr cr, .slice ay na cay, .slice aw nw cw, .int .i64 at_, .int .u64 x, .int .i64 p_, .int .i64 i_, .slice ae ne ce, c10, c11, .pointer (some ⟨bo, 0, none⟩), c13, c14, c15, c16, c17, c18, c19, c20, .pointer (some ⟨bm, 0, none⟩), c22, .bool true, .pointer (some ⟨bc, 0, none⟩), c25, c26, c27, c28, c29, c30, c31, c32, c33, c34, c35, c36, c37, c38, c39, c40, c41, c42, c43, c44, c45, c46, c47, c48, c49, c50, c51, c52, c53, c54, c55, c56, c57, c58, c59, c60, c61, c62, c63, c64, c65, c66, c67, c68, c69, c70, c71, c72, c73, c74, c75, c76, c77, c78, c79, c80, c81, c82, c83, c84, c85, c86, c87, c88, c89, c90, c91, c92, c93, c94, c95, c96, c97, c98, c99, c100, c101, c102, c103, c104, c105, c106, c107, c108, c109, c110, c111, c112, c113, c114, c115, c116, c117, c118, c119, c120, c121, c122, c123, c124, c125, c126, c127, c128, c129, c130, c131, c132, c133, c134, c135, c136, c137, c138, c139, c140, c141, c142, c143, c144, c145, c146, c147, c148, c149, c150, c151, c152, c153, c154, c155, c156, c157, c158, c159, c160, c161, c162, c163, c164, c165, c166, c167, c168, c169, c170, c171, c172, c173, c174, c175, c176, c177, c178, c179, c180, c181, c182, c183, c184, c185, c186, c187, c188, c189, c190, c191, c192, c193, c194, c195, c196, c197, c198, c199, c200, c201, c202, c203, c204, c205, c206, c207, c208, c209, c210, c211, c212, c213, c214, c215, c216, c217, c218, c219, c220, c221, c222, c223, c224, c225, c226, c227, c228, c229, c230, c231, c232, c233, c234, c235, c236, c237, c238, c239, c240, c241, c242, c243, c244, c245, c246, c247, c248, c249, c250, c251, c252, c253, c254, c255, c256, c257, c258, c259, c260, c261, c262, c263, c264, c265, c266, c267, c268, c269, c270, c271, c272, c273, c274, c275, c276, c277, c278, c279, c280, c281, c282, c283, c284, c285, c286, c287, c288, c289, c290, c291, c292, c293, c294, c295, c296, c297, c298, c299, c300, c301, c302, c303, c304, c305, c306, c307, c308, c309, c310, c311, c312, c313, c314, c315, c316, c317, c318, c319, c320, c321, c322, c323, c324, c325, c326, c327, c328, c329, c330, c331, c332, c333, c334, c335, c336, c337, c338, c339, c340, c341, c342, c343, c344, c345, c346, c347, c348, c349, c350, c351, c352, c353, c354, c355, c356, c357, c358, c359, c360, c361, c362, c363], defers := [] } w := by
  have HF := Lib.hid hF
  have HB := Lib.hid hB
  obtain ⟨i0, hi, hz0, hz1, hz2⟩ := info_parts word_info
  have hsz := sizeN_bd kc pc cc
  obtain ⟨N, hN⟩ : ∃ N : Nat, (N : Int) = sizeN kc pc cc := ⟨(sizeN kc pc cc).toNat, by omega⟩
  have HN := Lib.hid hN
  have hp1 : 1 ≤ pc := by have := hF.hf; unfold Fit at this; omega
  have CQ := Lib.hid (fun w => pick_any p_ pc w hF.hp.1 hF.hp.2 (by omega))
  have bQ := pick_bd (c := p_) (n := pc) (by omega)
  obtain ⟨q, hq⟩ : ∃ q, pickI p_ pc = q := ⟨_, rfl⟩
  rw [hq] at CQ bQ
  have CMe : Hid (∀ W, Below w.heap.size w W → Calls Tryd.prog 10 #[conf kc pc cc, .slice ae ne ce] W (SomeMem W N)) := Lib.hid (fun W hW => lMemory kc pc cc N ne _ W hF.hf hF.hp4 hN (hF.he.below hW))
  have HBw := Lib.hid (Below.refl w.heap.size w)
  have F := Lib.hid (HF.out.below HBw.out); have y0 := blk_cell F.out.hc (i := 0) (v := .int .i64 kc) rfl; have y1 := blk_cell F.out.hc (i := 1) (v := .int .i64 pc) rfl; have y2 := blk_cell F.out.hc (i := 2) (v := .int .i64 cc) rfl; have yz := (Array.getElem?_eq_some_iff.1 F.out.hc).1
  clear hF hB hN hq hsz
  conv => arg 2; whnf
  refine wp_seq_k (fun K5 hK5 => ?_)
  have HK5 := Lib.hid hK5
  clear hK5
  go_wp2_with (go_at_call 7; refine (lWrites kc pc cc nr _ w HF.out.hf HF.out.hr HF.out.hnr).mono ?_; rintro e w1 ⟨⟨vl, L, rfl, hL14, hLo, hv⟩, hb⟩; obtain ⟨al, cl, rfl⟩ := owns_slice hv; have VL := Lib.hid (sl_of_owns hv); have HLo := Lib.hid hLo; have HB1 := Lib.hid hb; clear hv hb hLo)
  refine HK5.out _ _ ?_
  clear HK5 y0 y1 y2 yz
  obtain ⟨nl, hnl⟩ : ∃ nl, L.length = nl := ⟨_, rfl⟩
  have HLl := Lib.hid hnl
  have HLw := Lib.hid (show ∀ y ∈ L, (Lit.int .i64 y.1).wf = true from fun y hy => WalkArith.wf_i64 (by have := (HLo.out y hy).1; omega))
  rw [hnl] at VL ⊢
  have hL14' : nl ≤ 14 := by omega
  clear hnl
  have F := Lib.hid (HF.out.below HB1.out); have y0 := blk_cell F.out.hc (i := 0) (v := .int .i64 kc) rfl; have y1 := blk_cell F.out.hc (i := 1) (v := .int .i64 pc) rfl; have y2 := blk_cell F.out.hc (i := 2) (v := .int .i64 cc) rfl; have yz := (Array.getElem?_eq_some_iff.1 F.out.hc).1
  have CP := fPack kc pc cc (.slice al nl cl) L nl w1 HLl.out VL.out
  have HXw := Lib.hid (packR_words (k := kc) (p := pc) (c := cc) HLo.out (by omega))
  have hxn : (packR kc pc cc L).1.length ≤ 1000000 := by
    unfold packR
    split
    · split
      · simp
      · split
        · rename_i h1 h2 h3
          rw [packR_bd h3 h1 h2]
          have := logN_bd kc pc cc
          omega
        · simp
    · simp
  obtain ⟨nx, hnx⟩ : ∃ nx, (packR kc pc cc L).1.length = nx := ⟨_, rfl⟩
  have HXl := Lib.hid hnx
  rw [hnx] at hxn
  have HCP := Lib.hid CP
  clear CP
  refine wp_seq_k (fun K6 hK6 => ?_)
  have HK6 := Lib.hid hK6
  clear hK6
  go_wp2_with (go_at_call 8; refine HCP.out.mono ?_; rintro e w2 ⟨vx, rfl, hv, hb⟩; rw [hnx] at hv; obtain ⟨ax, cx, rfl⟩ := owns_slice hv; have VX := Lib.hid (sl_of_owns hv); have HBX := Lib.hid hb; clear hv hb)
  refine HK6.out _ _ ?_
  clear HK6 y0 y1 y2 yz hnx
  have HB2 := Lib.hid (HB1.out.trans (HBX.out.mono HB1.out.size))
  have F := Lib.hid (HF.out.below HB2.out); have y0 := blk_cell F.out.hc (i := 0) (v := .int .i64 kc) rfl; have y1 := blk_cell F.out.hc (i := 1) (v := .int .i64 pc) rfl; have y2 := blk_cell F.out.hc (i := 2) (v := .int .i64 cc) rfl; have yz := (Array.getElem?_eq_some_iff.1 F.out.hc).1
  refine wp_seq_k (fun K7 hK7 => ?_)
  have HK7 := Lib.hid hK7
  clear hK7
  have HVX := VX.out
  obtain ⟨ax', cx', hve, hvx⟩ := HVX
  cases hve
  cases ax with
  | none =>
    have h0 : nx = 0 := by
      rcases Nat.eq_zero_or_pos nx with h0 | h0
      · exact h0
      · obtain ⟨b, o, h, _⟩ := hvx h0; cases h
    subst h0
    clear hvx
    go_wp2
    refine HK7.out _ _ ?_
    clear HK7
    have HBZ := Lib.hid (Below.refl w2.heap.size w2)
    have HBt := HB2
    have VZ := Lib.hid (Sl.nil w2)
    have HZl : Hid (([] : List Int).length = 0) := Lib.hid rfl
    have HZw : Hid (WordsOk []) := Lib.hid (by intro x hx; simp at hx)
    have hzn : (0 : Nat) ≤ 1000000 := by omega
    refine wp_seq_k (fun K8 hK8 => ?_)
    have HK8 := Lib.hid hK8
    clear hK8
    go_wp2
    refine HK8.out _ _ ?_
    clear HK8
    refine wp_seq_k (fun K10 hK10 => ?_)
    have HK10 := Lib.hid hK10
    clear hK10
    go_wp2_with (go_at_call 9; refine (CQ.out _).mono ?_; rintro e w' ⟨rfl, rfl⟩)
    refine HK10.out _ _ ?_
    clear HK10
    refine wp_seq_k (fun K11 hK11 => ?_)
    have HK11 := Lib.hid hK11
    clear hK11
    go_wp2_with (go_at_call 10; refine (CMe.out _ HBt.out).mono ?_; rintro e wm ⟨⟨vm, A, rfl, hA, hAo, hv⟩, hb⟩; obtain ⟨aa, ca, rfl⟩ := owns_slice hv; have HA := Lib.hid (And.intro hA hAo); have HAv := Lib.hid (sl_of_owns hv); have HBm := Lib.hid hb; clear hA hAo hv hb)
    refine HK11.out _ _ ?_
    have HBn := Lib.hid ((blk_alloc wm (memBox aa N ca)))
    have HBmn := Lib.hid (HBm.out.trans (HBn.out.mono HBm.out.size))
    have HBf := Lib.hid (HBt.out.trans (HBmn.out.mono HBt.out.size))
    have HBx := Lib.hid (World.alloc_heap_new wm (memBox aa N ca))
    have F := Lib.hid (HF.out.below HBf.out)
    refine law_end at_ x p_ i_ q kc pc cc bc wm.heap.size bm N nm 0 0 nl na nw ca cm cx 0 cl cay cw aa am none none al ay aw A M L Y (packR kc pc cc L).1 [] WS bo ko po co w0 _ (HB.out.trans (HBf.out.mono HB.out.size)) ?_ F.out.hbo
    exact { ho := F.out.ho, hat := F.out.hat, hi := F.out.hi, hx := F.out.hx, hc := F.out.hc, hf := F.out.hf, q0 := bQ.1, q1 := bQ.2, ha := HBx.out, hsA := HAv.out.below HBn.out, hA := HA.out.1, hN := HN.out, hAo := HA.out.2, hm := F.out.hm, hsM := F.out.hsM, hM := F.out.hM, hMo := F.out.hMo, hnm := F.out.hnm, hcm := F.out.hcm, hsX := (VX.out.below HBZ.out).below HBmn.out, hX := HXl.out, hXn := hxn, hXw := HXw.out, hsZ := VZ.out.below HBmn.out, hZ := HZl.out, hZn := hzn, hZw := HZw.out, hsL := ((VL.out.below HBX.out).below HBZ.out).below HBmn.out, hL := HLl.out, hLw := HLw.out, hsY := F.out.hsY, hY := F.out.hY, hYw := F.out.hYw, hna := F.out.hna, hcay := F.out.hcay, hsW := F.out.hsW, hW := F.out.hW, hWw := F.out.hWw, hnw := F.out.hnw, hcw := F.out.hcw }

  | some ad =>
    have HSx := Lib.hid hvx
    have hc1 := Lib.hid (show ∀ (j : Nat) (u : Value), (u64s (packR kc pc cc L).1)[j]? = some u → w2.cell? (ad.add j) = some u from by
      intro j u hj
      have h0 : 0 < nx := by
        have := (List.getElem?_eq_some_iff.1 hj).1
        rw [List.length_map, HXl.out] at this
        omega
      obtain ⟨b, o, he, hb, hc⟩ := HSx.out h0
      cases he
      rw [add_at]
      exact hc j u hj)
    clear hvx
    go_wp2_with (at_builtin; refine wpList_append_own _ rfl _ _ 27 rfl w2.heap.size 28 i0 _ 1 8 under_words hi hz0 hz1 hz2 rfl (by decide) _ _ _ rfl (World.ownsRow_nil _ _ _ _) ad nx cx (u64s (packR kc pc cc L).1) rfl (by rw [List.length_map, HXl.out]; omega) hc1.out (by intro u hu; simp at hu; obtain ⟨z, _, rfl⟩ := hu; rfl) (by unfold maxLen; omega) (by omega) (Nat.le_refl _) ?_; intro v9 w9 hown9 hg9 _; simp only [Nat.zero_add, List.nil_append] at hown9; obtain ⟨a9, cz, rfl⟩ := owns_slice hown9; have HOW := Lib.hid hown9; have HBZ := Lib.hid (show Below w2.heap.size w2 w9 from (Below.refl _ _).grown hg9 (Nat.le_refl _) (by intro r e; cases e)); clear hown9 hg9)
    refine HK7.out _ _ ?_
    clear HK7
    have HBt := Lib.hid (HB2.out.trans (HBZ.out.mono HB2.out.size))
    have F := Lib.hid (HF.out.below HBt.out); have y0 := blk_cell F.out.hc (i := 0) (v := .int .i64 kc) rfl; have y1 := blk_cell F.out.hc (i := 1) (v := .int .i64 pc) rfl; have y2 := blk_cell F.out.hc (i := 2) (v := .int .i64 cc) rfl; have yz := (Array.getElem?_eq_some_iff.1 F.out.hc).1
    refine wp_seq_k (fun K8 hK8 => ?_)
    have HK8 := Lib.hid hK8
    clear hK8
    by_cases hpos : 0 < nx
    · obtain ⟨g, cz', hve, hg1, hg2⟩ := World.ownsRow.form HOW.out hpos
      cases hve
      have CA := Lib.hid (fun w => pick_any at_ (nx : Int) w HF.out.hat.1 HF.out.hat.2 (by omega))
      have bA := pick_bd (c := at_) (n := (nx : Int)) (by omega)
      obtain ⟨y, hy⟩ : ∃ y, pickI at_ (nx : Int) = y := ⟨_, rfl⟩
      rw [hy] at CA bA
      obtain ⟨⟨u1, o1⟩, p1, _, _⟩ := owns_cell1 (j := y.toNat) HOW.out (by omega)
      have a0 : (0 : Int) ≤ y := bA.1
      have a1 : y < (nx : Int) := bA.2
      clear hy
      go_wp2_with (go_at_call 9; refine (CA.out _).mono ?_; rintro e w' ⟨rfl, rfl⟩)
      refine HK8.out _ _ ?_
      clear HK8
      have hZs : Below w2.heap.size w2 (w9.setCell ⟨g, y.toNat, none⟩ (.int .u64 x)) := HBZ.out.setCell (p := ⟨g, y.toNat, none⟩) hg1 _
      have HOW2 := Lib.hid (owns_put1 (u := .int .u64 x) (j := y.toNat) HOW.out (by omega))
      have HBZ := Lib.hid hZs
      have HBt := Lib.hid (HB2.out.trans (HBZ.out.mono HB2.out.size))
      clear y0 y1 y2 yz o1 p1 hZs
      have F := Lib.hid (HF.out.below HBt.out); have y0 := blk_cell F.out.hc (i := 0) (v := .int .i64 kc) rfl; have y1 := blk_cell F.out.hc (i := 1) (v := .int .i64 pc) rfl; have y2 := blk_cell F.out.hc (i := 2) (v := .int .i64 cc) rfl; have yz := (Array.getElem?_eq_some_iff.1 F.out.hc).1
      have VZ := Lib.hid (show Sl (w9.setCell ⟨g, y.toNat, none⟩ (.int .u64 x)) (.slice (some ⟨g, 0, none⟩) nx cz) nx (u64s ((packR kc pc cc L).1.set y.toNat x)) from by have h := sl_of_owns HOW2.out; rw [← List.map_set] at h; exact h)
      have HZl := Lib.hid (show ((packR kc pc cc L).1.set y.toNat x).length = nx by rw [List.length_set]; exact HXl.out)
      have HZw := Lib.hid (wordsOk_set HXw.out y.toNat HF.out.hx)
      have hzn := hxn
      refine wp_seq_k (fun K10 hK10 => ?_)
      have HK10 := Lib.hid hK10
      clear hK10
      go_wp2_with (go_at_call 9; refine (CQ.out _).mono ?_; rintro e w' ⟨rfl, rfl⟩)
      refine HK10.out _ _ ?_
      clear HK10
      refine wp_seq_k (fun K11 hK11 => ?_)
      have HK11 := Lib.hid hK11
      clear hK11
      go_wp2_with (go_at_call 10; refine (CMe.out _ HBt.out).mono ?_; rintro e wm ⟨⟨vm, A, rfl, hA, hAo, hv⟩, hb⟩; obtain ⟨aa, ca, rfl⟩ := owns_slice hv; have HA := Lib.hid (And.intro hA hAo); have HAv := Lib.hid (sl_of_owns hv); have HBm := Lib.hid hb; clear hA hAo hv hb)
      refine HK11.out _ _ ?_
      have HBn := Lib.hid ((blk_alloc wm (memBox aa N ca)))
      have HBmn := Lib.hid (HBm.out.trans (HBn.out.mono HBm.out.size))
      have HBf := Lib.hid (HBt.out.trans (HBmn.out.mono HBt.out.size))
      have HBx := Lib.hid (World.alloc_heap_new wm (memBox aa N ca))
      have F := Lib.hid (HF.out.below HBf.out)
      refine law_end at_ x p_ i_ q kc pc cc bc wm.heap.size bm N nm nx nx nl na nw ca cm cx cz cl cay cw aa am (some ad) (some ⟨g, 0, none⟩) al ay aw A M L Y (packR kc pc cc L).1 ((packR kc pc cc L).1.set y.toNat x) WS bo ko po co w0 _ (HB.out.trans (HBf.out.mono HB.out.size)) ?_ F.out.hbo
      exact { ho := F.out.ho, hat := F.out.hat, hi := F.out.hi, hx := F.out.hx, hc := F.out.hc, hf := F.out.hf, q0 := bQ.1, q1 := bQ.2, ha := HBx.out, hsA := HAv.out.below HBn.out, hA := HA.out.1, hN := HN.out, hAo := HA.out.2, hm := F.out.hm, hsM := F.out.hsM, hM := F.out.hM, hMo := F.out.hMo, hnm := F.out.hnm, hcm := F.out.hcm, hsX := (VX.out.below HBZ.out).below HBmn.out, hX := HXl.out, hXn := hxn, hXw := HXw.out, hsZ := VZ.out.below HBmn.out, hZ := HZl.out, hZn := hzn, hZw := HZw.out, hsL := ((VL.out.below HBX.out).below HBZ.out).below HBmn.out, hL := HLl.out, hLw := HLw.out, hsY := F.out.hsY, hY := F.out.hY, hYw := F.out.hYw, hna := F.out.hna, hcay := F.out.hcay, hsW := F.out.hsW, hW := F.out.hW, hWw := F.out.hWw, hnw := F.out.hnw, hcw := F.out.hcw }

    · obtain rfl : nx = 0 := by omega
      go_wp2
      refine HK8.out _ _ ?_
      clear HK8
      have VZ := Lib.hid (sl_of_owns HOW.out)
      have HZl := HXl
      have HZw := HXw
      have hzn := hxn
      refine wp_seq_k (fun K10 hK10 => ?_)
      have HK10 := Lib.hid hK10
      clear hK10
      go_wp2_with (go_at_call 9; refine (CQ.out _).mono ?_; rintro e w' ⟨rfl, rfl⟩)
      refine HK10.out _ _ ?_
      clear HK10
      refine wp_seq_k (fun K11 hK11 => ?_)
      have HK11 := Lib.hid hK11
      clear hK11
      go_wp2_with (go_at_call 10; refine (CMe.out _ HBt.out).mono ?_; rintro e wm ⟨⟨vm, A, rfl, hA, hAo, hv⟩, hb⟩; obtain ⟨aa, ca, rfl⟩ := owns_slice hv; have HA := Lib.hid (And.intro hA hAo); have HAv := Lib.hid (sl_of_owns hv); have HBm := Lib.hid hb; clear hA hAo hv hb)
      refine HK11.out _ _ ?_
      have HBn := Lib.hid ((blk_alloc wm (memBox aa N ca)))
      have HBmn := Lib.hid (HBm.out.trans (HBn.out.mono HBm.out.size))
      have HBf := Lib.hid (HBt.out.trans (HBmn.out.mono HBt.out.size))
      have HBx := Lib.hid (World.alloc_heap_new wm (memBox aa N ca))
      have F := Lib.hid (HF.out.below HBf.out)
      refine law_end at_ x p_ i_ q kc pc cc bc wm.heap.size bm N nm 0 0 nl na nw ca cm cx cz cl cay cw aa am (some ad) a9 al ay aw A M L Y (packR kc pc cc L).1 (packR kc pc cc L).1 WS bo ko po co w0 _ (HB.out.trans (HBf.out.mono HB.out.size)) ?_ F.out.hbo
      exact { ho := F.out.ho, hat := F.out.hat, hi := F.out.hi, hx := F.out.hx, hc := F.out.hc, hf := F.out.hf, q0 := bQ.1, q1 := bQ.2, ha := HBx.out, hsA := HAv.out.below HBn.out, hA := HA.out.1, hN := HN.out, hAo := HA.out.2, hm := F.out.hm, hsM := F.out.hsM, hM := F.out.hM, hMo := F.out.hMo, hnm := F.out.hnm, hcm := F.out.hcm, hsX := (VX.out.below HBZ.out).below HBmn.out, hX := HXl.out, hXn := hxn, hXw := HXw.out, hsZ := VZ.out.below HBmn.out, hZ := HZl.out, hZn := hzn, hZw := HZw.out, hsL := ((VL.out.below HBX.out).below HBZ.out).below HBmn.out, hL := HLl.out, hLw := HLw.out, hsY := F.out.hsY, hY := F.out.hY, hYw := F.out.hYw, hna := F.out.hna, hcay := F.out.hcay, hsW := F.out.hsW, hW := F.out.hW, hWw := F.out.hWw, hnw := F.out.hnw, hcw := F.out.hcw }


end Go.Proofs.YthigfjelgbdcfaaDoor

namespace Go.Proofs.YthigfjelgbdcfaaDoor
open Go.RowKit Go.Maps

set_option linter.unusedSimpArgs false in
set_option linter.unusedVariables false in
set_option maxRecDepth 1000000 in
set_option maxHeartbeats 8000000 in
theorem law_true (n0 n1 n2 at_ x p_ i_ ko po co : Int) (nm na nw nr ne cm cay cw cr ce : Nat) (am ay aw ar ae : Option Addr) (M Y : List (Int × Int)) (WS : List Int) (w : World) (ho : Objs w) (h0 : I64 n0) (h1 : I64 n1) (h2 : I64 n2) (hat : I64 at_) (hi : I64 i_) (hp : I64 p_) (hx : 0 ≤ x ∧ x ≤ 18446744073709551615)
    (hsM : Sl w (.slice am nm cm) nm (cls M)) (hM : M.length = nm) (hMo : MemOk M) (hnm : nm ≤ 9223372036854775807) (hcm : nm ≤ cm) (hsY : Sl w (.slice ay na cay) na (wrs Y)) (hY : Y.length = na) (hYw : ∀ y ∈ Y, (Lit.int .i64 y.1).wf = true) (hna : na ≤ 9223372036854775807) (hcay : na ≤ cay)
    (hsW : Sl w (.slice aw nw cw) nw (u64s WS)) (hW : WS.length = nw) (hWw : WordsOk WS) (hnw : nw ≤ 9223372036854775807) (hcw : nw ≤ cw) (hr : SlI 2 w (.slice ar nr cr) nr) (hnr : nr ≤ 9223372036854775807) (he : SlI 3 w (.slice ae ne ce) ne) :
    Calls Tryd.prog 3 #[.agg #[.int .i64 n0, .int .i64 n1, .int .i64 n2], conf ko po co, .slice ar nr cr, .slice ay na cay, .slice aw nw cw, .int .i64 at_, .int .u64 x, .int .i64 p_, .int .i64 i_, .slice ae ne ce, .agg #[.slice am nm cm]] w fun e w' => e = .returned (.bool true) ∧ Below w.heap.size w w' := by
  have bk := pick_bd (c := n0) (n := 5) (by omega)
  have bp := pick_bd (c := n1) (n := 4) (by omega)
  have bc := pick_bd (c := n2) (n := 4) (by omega)
  have CC := Lib.hid (fun w => lConf n0 n1 n2 w h0 h1 h2)
  obtain ⟨kc, hkc⟩ : ∃ k, 1 + pickI n0 5 = k := ⟨_, rfl⟩
  obtain ⟨pc, hpc⟩ : ∃ k, 1 + pickI n1 4 = k := ⟨_, rfl⟩
  obtain ⟨cc, hcc⟩ : ∃ k, 1 + pickI n2 4 = k := ⟨_, rfl⟩
  rw [hkc, hpc, hcc] at CC
  have hf : Fit kc pc cc := by unfold Fit; omega
  have hp4 : pc ≤ 4 := by omega
  have hMid := Lib.hid (show ∀ (W3 : World) (ko po co : Int) (bc : Nat), Below w.heap.size w W3 → W3.heap[bc]? = some (.cells #[.int .i64 kc, .int .i64 pc, .int .i64 cc] 24) → W3.heap[w.heap.size + 1]? = some (.cells #[.int .i64 ko, .int .i64 po, .int .i64 co] 24) → W3.heap[w.heap.size + 1 + 1]? = some (memBox am nm cm) →
      MidF at_ x p_ i_ kc pc cc ko po co bc (w.heap.size + 1) (w.heap.size + 1 + 1) nm na nw nr ne cm cay cw cr ce am ay aw ar ae M Y WS W3 from
    fun W3 ko po co bc hB hc hbo hm => { ho := ho.below hB, hat := hat, hi := hi, hp := hp, hx := hx, hc := hc, hf := hf, hp4 := hp4, hbo := hbo, hm := hm, hsM := hsM.below hB, hM := hM, hMo := hMo, hnm := hnm, hcm := hcm, hsY := hsY.below hB, hY := hY, hYw := hYw, hna := hna, hcay := hcay, hsW := hsW.below hB, hW := hW, hWw := hWw, hnw := hnw, hcw := hcw, hr := hr.below hB, hnr := hnr, he := he.below hB })
  have HO := Lib.hid ho
  clear ho h0 h1 h2 hat hi hp hx hsM hM hMo hnm hcm hsY hY hYw hna hcay hsW hW hWw hnw hcw hr hnr he hkc hpc hcc bk bp bc hf hp4
  obtain ⟨W0, hW0⟩ : ∃ W0, ((w.alloc (.cells #[.int .i64 n0, .int .i64 n1, .int .i64 n2] 22)).alloc (.cells #[.int .i64 ko, .int .i64 po, .int .i64 co] 24)).alloc (memBox am nm cm) = W0 := ⟨_, rfl⟩
  have HB0 := Lib.hid (show Below w.heap.size w W0 from by rw [← hW0]; exact (by repeat (first | exact Below.refl _ _ | assumption | refine Below.drew ?_ | refine Below.alloc ?_ (by first | omega | (simp; omega) | (simp; done)) _ | refine Below.setCell ?_ (by first | omega | (simp; omega) | (simp; done)) _)))
  have HX0 := Lib.hid (show W0.heap[w.heap.size]? = some (.cells #[.int .i64 n0, .int .i64 n1, .int .i64 n2] 22 (0, 0)) ∧ W0.heap[w.heap.size + 1]? = some (.cells #[.int .i64 ko, .int .i64 po, .int .i64 co] 24) ∧ W0.heap[w.heap.size + 1 + 1]? = some (memBox am nm cm) from by rw [← hW0]; exact ⟨blk_alloc' (blk_alloc' (World.alloc_heap_new w _)), blk_alloc' (alloc_at _ _ (by simp)), alloc_at _ _ (by simp)⟩)
  have HW0 := Lib.hid hW0
  clear hW0
  go_enter Tryd.func3, Tryd.ntmps3
  refine wp_seq_k (fun K1 hK1 => ?_)
  have HK1 := Lib.hid hK1
  clear hK1
  go_wp2
  rw [HW0.out]
  refine HK1.out _ _ ?_
  clear HK1
  refine wp_seq_k (fun K1 hK1 => ?_)
  have HK1 := Lib.hid hK1
  clear hK1
  go_wp2_with (go_at_call 5; refine (awake_true W0 (HO.out.below HB0.out)).mono ?_; rintro e w1 ⟨rfl, hb⟩; have HB1 := Lib.hid hb; clear hb)
  refine HK1.out _ _ ?_
  clear HK1
  have X1 := (HB1.out.block _ (Array.getElem?_eq_some_iff.1 HX0.out.1).1).trans HX0.out.1
  have X2 := Lib.hid ((HB1.out.block _ (Array.getElem?_eq_some_iff.1 HX0.out.2.1).1).trans HX0.out.2.1)
  have X3 := Lib.hid ((HB1.out.block _ (Array.getElem?_eq_some_iff.1 HX0.out.2.2).1).trans HX0.out.2.2)
  have a0 := blk_cell X1 (i := 0) (v := .int .i64 n0) rfl
  have a1 := blk_cell X1 (i := 1) (v := .int .i64 n1) rfl
  have a2 := blk_cell X1 (i := 2) (v := .int .i64 n2) rfl
  have HBa := Lib.hid (HB0.out.trans (HB1.out.mono HB0.out.size))
  refine wp_seq_k (fun K1 hK1 => ?_)
  have HK1 := Lib.hid hK1
  clear hK1 X1
  go_wp2_with (go_at_call 6; refine (CC.out _).mono ?_; rintro e w2 ⟨rfl, hb⟩; have HB2 := Lib.hid hb; clear hb)
  refine HK1.out _ _ ?_
  clear HK1 a0 a1 a2
  have HB3 := Lib.hid (HB2.out.trans ((blk_alloc w2 (.cells #[.int .i64 kc, .int .i64 pc, .int .i64 cc] 24)).mono HB2.out.size))
  have HBb := Lib.hid (HBa.out.trans (HB3.out.mono HBa.out.size))
  have Y2 := (HB3.out.block _ (Array.getElem?_eq_some_iff.1 X2.out).1).trans X2.out
  have Y3 := (HB3.out.block _ (Array.getElem?_eq_some_iff.1 X3.out).1).trans X3.out
  have Y1 := World.alloc_heap_new w2 (.cells #[.int .i64 kc, .int .i64 pc, .int .i64 cc] 24)
  have hlt : w.heap.size + 1 + 1 < w2.heap.size := by
    have h1 := (Array.getElem?_eq_some_iff.1 X3.out).1
    have h2 := HB2.out.size
    omega
  obtain ⟨W3, hW3⟩ : ∃ W3, w2.alloc (.cells #[.int .i64 kc, .int .i64 pc, .int .i64 cc] 24) = W3 := ⟨_, rfl⟩
  obtain ⟨b3, hb3⟩ : ∃ b3, w2.heap.size = b3 := ⟨_, rfl⟩
  rw [hb3] at hlt
  rw [hW3] at HB3 HBb Y2 Y3
  rw [hW3, hb3] at Y1
  rw [hW3, hb3]
  clear hW3 hb3
  have y0 := blk_cell Y1 (i := 0) (v := .int .i64 kc) rfl
  have y1 := blk_cell Y1 (i := 1) (v := .int .i64 pc) rfl
  have y2 := blk_cell Y1 (i := 2) (v := .int .i64 cc) rfl
  have o0 := blk_cell Y2 (i := 0) (v := .int .i64 ko) rfl
  have o1 := blk_cell Y2 (i := 1) (v := .int .i64 po) rfl
  have o2 := blk_cell Y2 (i := 2) (v := .int .i64 co) rfl
  have f0 := blk_frozen Y2 (i := 0)
  have f1 := blk_frozen Y2 (i := 1)
  have f2 := blk_frozen Y2 (i := 2)
  have M0 := Lib.hid (hMid.out W3 ko po co b3 HBb.out Y1 Y2 Y3)
  have MB := Lib.hid (show Below w.heap.size w (((W3.setCell ⟨w.heap.size + 1, 0, none⟩ (.int .i64 kc)).setCell ⟨w.heap.size + 1, 1, none⟩ (.int .i64 pc)).setCell ⟨w.heap.size + 1, 2, none⟩ (.int .i64 cc)) from ((HBb.out.setCell (p := ⟨w.heap.size + 1, 0, none⟩) (by simp) _).setCell (p := ⟨w.heap.size + 1, 1, none⟩) (by simp) _).setCell (p := ⟨w.heap.size + 1, 2, none⟩) (by simp) _)
  have M1 := Lib.hid (hMid.out _ kc pc cc b3 MB.out (blk_far (blk_far (blk_far Y1 (by omega) _) (by omega) _) (by omega) _) (blk_set (blk_set (blk_set Y2 _) _) _) (blk_far (blk_far (blk_far Y3 (by omega) _) (by omega) _) (by omega) _))
  clear Y1 Y2 Y3 hMid
  refine wp_seq_k (fun K4 hK4 => ?_)
  have HK4 := Lib.hid hK4
  clear hK4
  by_cases g1 : 20 < co
  · by_cases g2 : co ≤ 256
    · go_wp2
      refine HK4.out _ _ ?_
      exact law_mid _ _ _ _ _ _ _ _ _ _ _ _ _ _ _ _ _ _ _ _ _ _ _ _ _ _ _ _ _ _ _ w _ MB.out M1.out
    · by_cases g3 : 4 < po
      · by_cases g4 : po ≤ 16
        · go_wp2
          refine HK4.out _ _ ?_
          exact law_mid _ _ _ _ _ _ _ _ _ _ _ _ _ _ _ _ _ _ _ _ _ _ _ _ _ _ _ _ _ _ _ w _ MB.out M1.out
        · go_wp2
          refine HK4.out _ _ ?_
          exact law_mid _ _ _ _ _ _ _ _ _ _ _ _ _ _ _ _ _ _ _ _ _ _ _ _ _ _ _ _ _ _ _ w _ HBb.out M0.out
      · go_wp2
        refine HK4.out _ _ ?_
        exact law_mid _ _ _ _ _ _ _ _ _ _ _ _ _ _ _ _ _ _ _ _ _ _ _ _ _ _ _ _ _ _ _ w _ HBb.out M0.out
  · by_cases g3 : 4 < po
    · by_cases g4 : po ≤ 16
      · go_wp2
        refine HK4.out _ _ ?_
        exact law_mid _ _ _ _ _ _ _ _ _ _ _ _ _ _ _ _ _ _ _ _ _ _ _ _ _ _ _ _ _ _ _ w _ MB.out M1.out
      · go_wp2
        refine HK4.out _ _ ?_
        exact law_mid _ _ _ _ _ _ _ _ _ _ _ _ _ _ _ _ _ _ _ _ _ _ _ _ _ _ _ _ _ _ _ w _ HBb.out M0.out
    · go_wp2
      refine HK4.out _ _ ?_
      exact law_mid _ _ _ _ _ _ _ _ _ _ _ _ _ _ _ _ _ _ _ _ _ _ _ _ _ _ _ _ _ _ _ w _ HBb.out M0.out

end Go.Proofs.YthigfjelgbdcfaaDoor
