/- A part of the law's walk: the rounds over the memories. -/
import Derived.Test.YthigfjelgbdcfaaDoorGLwBase
import Derived.Test.YthigfjelgbdcfaaDoorGLwP5

set_option linter.unusedSimpArgs false
set_option linter.unusedVariables false

namespace Go.Proofs.YthigfjelgbdcfaaDoor
open Go.RowKit Go.Maps

set_option linter.unusedSimpArgs false in
set_option linter.unusedVariables false in
set_option maxRecDepth 1000000 in
set_option maxHeartbeats 8000000 in
theorem law_mems {c0 c1 c2 c3 c4 c5 c6 c8 c9 c10 c11 c12 c13 c14 c15 c16 c17 c18 c19 c20 c22 c23 c25 c27 c31 c33 c34 c35 c36 c37 c38 c39 c40 c41 c42 c43 c44 c45 c46 c47 c48 c49 c50 c51 c52 c53 c54 c55 c56 c57 c58 c59 c60 c61 c62 c63 c64 c65 c66 c67 c68 c69 c70 c71 c72 c73 c74 c75 c76 c77 c78 c79 c80 c81 c82 c83 c84 c85 c86 c87 c88 c89 c90 c91 c92 c93 c94 c95 c96 c97 c98 c99 c100 c101 c102 c103 c104 c105 c106 c107 c108 c109 c110 c111 c112 c113 c114 c115 c116 c117 c118 c119 c120 c121 c122 c123 c124 c125 c126 c127 c128 c129 c130 c131 c132 c133 c134 c135 c136 c137 c138 c139 c140 c141 c142 c143 c144 c145 c146 c147 c148 c149 c150 c151 c152 c153 c154 c155 c156 c157 c158 c159 c160 c161 c162 c163 c164 c165 c166 c167 c168 c169 c170 c171 c172 c173 c174 c175 c176 c177 c178 c179 c180 c181 c182 c183 c184 c185 c186 c187 c188 c189 c190 c191 c192 c193 c194 c195 c196 c197 c198 c199 c200 c201 c202 c203 c204 c205 c206 c207 c208 c209 c210 c211 c212 c213 c214 c215 c216 c217 c218 c219 c220 c221 c222 c223 c224 c225 c226 c227 c228 c229 c230 c231 c232 c233 c234 c235 c236 c237 c238 c239 c240 c241 c242 c243 c244 c245 c246 c247 c248 c249 c250 c251 c252 c253 c254 c255 c256 c257 c258 c259 c260 c261 c262 c263 c264 c265 c266 c267 c268 c269 c270 c271 c272 c273 c274 c275 c276 c277 c278 c279 c280 c281 c282 c283 c284 c285 c286 c287 c288 c289 c290 c291 c292 c293 c294 c295 c296 c297 c298 c299 c300 c301 c302 c303 c304 c305 c306 c307 c308 c309 c310 c311 c312 c313 c314 c315 c316 c317 c318 c319 c320 c321 c322 c323 c324 c325 c326 c327 c328 c329 c330 c331 c332 c333 c334 c335 c336 c337 c338 c339 c340 c341 c342 c343 c344 c345 c346 c347 c348 c349 c350 c351 c352 c353 c354 c355 c356 c357 c358 c359 c360 c361 c362 c363 : Value} (k p c kc pc cc p_ q_ : Int) (bd bc ba bm N nm nx nz ca cm cx cz : Nat) (aa am ax az : Option Addr) (A M : List (Int × Int)) (X Z : List Int) (w : World) (ho : Objs w) (hd : w.heap[bd]? = some (.cells #[.int .i64 k, .int .i64 p, .int .i64 c] 24)) (hc : w.heap[bc]? = some (.cells #[.int .i64 kc, .int .i64 pc, .int .i64 cc] 24)) (hf : Fit kc pc cc) (q0 : 0 ≤ q_) (q1 : q_ < pc)
    (ha : w.heap[ba]? = some (memBox aa N ca)) (hsA : Sl w (.slice aa N ca) N (cls A)) (hA : A.length = N) (hN : (N : Int) = sizeN kc pc cc) (hAo : MemOk A) (hm : w.heap[bm]? = some (memBox am nm cm)) (hsM : Sl w (.slice am nm cm) nm (cls M)) (hM : M.length = nm) (hMo : MemOk M) (hnm : nm ≤ 9223372036854775807) (hcm : nm ≤ cm)
    (hx : Sl w (.slice ax nx cx) nx (u64s X)) (hX : X.length = nx) (hXn : nx ≤ 1000000) (hXw : WordsOk X) (hz : Sl w (.slice az nz cz) nz (u64s Z)) (hZ : Z.length = nz) (hZn : nz ≤ 1000000) (hZw : WordsOk Z)
    (K : Act → World → Prop) (Q' : Exit → Act → World → Prop) (hK : ∀ (e22 e60 e62 e63 e64 e65 e66 e67 e68 e69 e70 e279 e280 e281 e282 e283 e284 e285 e286 e287 e288 e289 e290 e291 e292 e293 e294 e295 e296 e297 e298 e299 e300 e301 e302 e303 e304 e305 e306 e307 e308 e309 e310 e311 e312 e313 e314 e315 e316 e317 e318 e319 e320 e321 e322 e323 e324 e325 e326 e327 e328 e329 e330 e331 e332 e333 e334 e335 e336 e337 e338 e339 e340 e341 e342 e343 e344 e345 e346 e347 e348 e349 e350 e351 e352 e353 e354 e355 e356 e357 e358 e359 e360 e361 : Value) (w' : World), Below w.heap.size w w' → K { tmps := #[c0, c1, c2, c3, c4, c5, c6, .int .i64 p_, c8, c9, c10, c11, c12, c13, c14, c15, c16, c17, c18, c19, c20, .pointer (some ⟨bm, 0, none⟩), e22, c23, .pointer (some ⟨bc, 0, none⟩), c25, .slice ax nx cx, c27, .slice az nz cz, .int .i64 q_, .pointer (some ⟨ba, 0, none⟩), c31, .pointer (some ⟨bd, 0, none⟩), c33, c34, c35, c36, c37, c38, c39, c40, c41, c42, c43, c44, c45, c46, c47, c48, c49, c50, c51, c52, c53, c54, c55, c56, c57, c58, c59, e60, c61, e62, e63, e64, e65, e66, e67, e68, e69, e70, c71, c72, c73, c74, c75, c76, c77, c78, c79, c80, c81, c82, c83, c84, c85, c86, c87, c88, c89, c90, c91, c92, c93, c94, c95, c96, c97, c98, c99, c100, c101, c102, c103, c104, c105, c106, c107, c108, c109, c110, c111, c112, c113, c114, c115, c116, c117, c118, c119, c120, c121, c122, c123, c124, c125, c126, c127, c128, c129, c130, c131, c132, c133, c134, c135, c136, c137, c138, c139, c140, c141, c142, c143, c144, c145, c146, c147, c148, c149, c150, c151, c152, c153, c154, c155, c156, c157, c158, c159, c160, c161, c162, c163, c164, c165, c166, c167, c168, c169, c170, c171, c172, c173, c174, c175, c176, c177, c178, c179, c180, c181, c182, c183, c184, c185, c186, c187, c188, c189, c190, c191, c192, c193, c194, c195, c196, c197, c198, c199, c200, c201, c202, c203, c204, c205, c206, c207, c208, c209, c210, c211, c212, c213, c214, c215, c216, c217, c218, c219, c220, c221, c222, c223, c224, c225, c226, c227, c228, c229, c230, c231, c232, c233, c234, c235, c236, c237, c238, c239, c240, c241, c242, c243, c244, c245, c246, c247, c248, c249, c250, c251, c252, c253, c254, c255, c256, c257, c258, c259, c260, c261, c262, c263, c264, c265, c266, c267, c268, c269, c270, c271, c272, c273, c274, c275, c276, c277, c278, e279, e280, e281, e282, e283, e284, e285, e286, e287, e288, e289, e290, e291, e292, e293, e294, e295, e296, e297, e298, e299, e300, e301, e302, e303, e304, e305, e306, e307, e308, e309, e310, e311, e312, e313, e314, e315, e316, e317, e318, e319, e320, e321, e322, e323, e324, e325, e326, e327, e328, e329, e330, e331, e332, e333, e334, e335, e336, e337, e338, e339, e340, e341, e342, e343, e344, e345, e346, e347, e348, e349, e350, e351, e352, e353, e354, e355, e356, e357, e358, e359, e360, e361, c362, c363], defers := [] } w') :
    Code.wp Tryd.prog lawA6 (Exit.inBlock 1 (Exit.then K Q')) { tmps := #[c0, c1, c2, c3, c4, c5, c6, .int .i64 p_, c8, c9, c10, c11, c12, c13, c14, c15, c16, c17, c18, c19, c20, .pointer (some ⟨bm, 0, none⟩), c22, c23, .pointer (some ⟨bc, 0, none⟩), c25, .slice ax nx cx, c27, .slice az nz cz, .int .i64 q_, .pointer (some ⟨ba, 0, none⟩), c31, .pointer (some ⟨bd, 0, none⟩), c33, c34, c35, c36, c37, c38, c39, c40, c41, c42, c43, c44, c45, c46, c47, c48, c49, c50, c51, c52, c53, c54, c55, c56, c57, c58, c59, c60, c61, c62, c63, c64, c65, c66, c67, c68, c69, c70, c71, c72, c73, c74, c75, c76, c77, c78, c79, c80, c81, c82, c83, c84, c85, c86, c87, c88, c89, c90, c91, c92, c93, c94, c95, c96, c97, c98, c99, c100, c101, c102, c103, c104, c105, c106, c107, c108, c109, c110, c111, c112, c113, c114, c115, c116, c117, c118, c119, c120, c121, c122, c123, c124, c125, c126, c127, c128, c129, c130, c131, c132, c133, c134, c135, c136, c137, c138, c139, c140, c141, c142, c143, c144, c145, c146, c147, c148, c149, c150, c151, c152, c153, c154, c155, c156, c157, c158, c159, c160, c161, c162, c163, c164, c165, c166, c167, c168, c169, c170, c171, c172, c173, c174, c175, c176, c177, c178, c179, c180, c181, c182, c183, c184, c185, c186, c187, c188, c189, c190, c191, c192, c193, c194, c195, c196, c197, c198, c199, c200, c201, c202, c203, c204, c205, c206, c207, c208, c209, c210, c211, c212, c213, c214, c215, c216, c217, c218, c219, c220, c221, c222, c223, c224, c225, c226, c227, c228, c229, c230, c231, c232, c233, c234, c235, c236, c237, c238, c239, c240, c241, c242, c243, c244, c245, c246, c247, c248, c249, c250, c251, c252, c253, c254, c255, c256, c257, c258, c259, c260, c261, c262, c263, c264, c265, c266, c267, c268, c269, c270, c271, c272, c273, c274, c275, c276, c277, c278, c279, c280, c281, c282, c283, c284, c285, c286, c287, c288, c289, c290, c291, c292, c293, c294, c295, c296, c297, c298, c299, c300, c301, c302, c303, c304, c305, c306, c307, c308, c309, c310, c311, c312, c313, c314, c315, c316, c317, c318, c319, c320, c321, c322, c323, c324, c325, c326, c327, c328, c329, c330, c331, c332, c333, c334, c335, c336, c337, c338, c339, c340, c341, c342, c343, c344, c345, c346, c347, c348, c349, c350, c351, c352, c353, c354, c355, c356, c357, c358, c359, c360, c361, c362, c363], defers := [] } w := by
  have HK := Lib.hid hK
  have HO := Lib.hid ho
  have HD := Lib.hid hd
  have HXs := Lib.hid hx
  have HX := Lib.hid (And.intro hX (And.intro hXn hXw))
  have HZs := Lib.hid hz
  have HZ := Lib.hid (And.intro hZ (And.intro hZn hZw))
  have hN2 : N ≤ 1000000 := by have := sizeN_bd kc pc cc; omega
  have HAs := Lib.hid hsA
  have HA := Lib.hid (And.intro hA (And.intro hN2 hAo))
  have HMs := Lib.hid hsM
  have HMo := Lib.hid (And.intro hM hMo)
  obtain ⟨l1, l2, l3, l4⟩ := log_in hf q0 q1
  have CW : Hid (∀ W a n cp X', Below w.heap.size w W → Sl W (.slice a n cp) n (u64s X') → X'.length = n → n ≤ 1000000 → WordsOk X' → Calls Tryd.prog 20 #[conf kc pc cc, .agg #[.slice aa N ca], .int .i64 q_, .slice a n cp] W fun e w' => ∃ v c' M', e = .returned (.agg #[.slice v N c']) ∧ M'.length = N ∧ MemOk M' ∧ Sl w' (.slice v N c') N (cls M') ∧ Below W.heap.size W w') := Lib.hid (fun W a n cp X' hW hS hl hn hw =>
    (lWith kc pc cc q_ aa ca A N (atN kc pc cc 3 q_).toNat (logN kc pc cc).toNat n (.slice a n cp) X' W hf q0 q1 (by omega) (by omega) (by omega) (by omega) hA hN2 (hsA.below hW) hl hn hS).mono (by
      rintro e w' ⟨⟨v, rfl, hv⟩, hb⟩
      obtain ⟨a', c', rfl⟩ := owns_slice hv
      exact ⟨a', c', _, rfl, by rw [withTo_len]; exact hA, withTo_ok hAo hw _, sl_of_owns hv, hb⟩))
  have HS0 : Hid (∀ W, Below w.heap.size w W → (fun W : World => W.cell? ⟨bc, 0, none⟩ = some (.int .i64 kc) ∧ W.cell? ⟨bc, 1, none⟩ = some (.int .i64 pc) ∧ W.cell? ⟨bc, 2, none⟩ = some (.int .i64 cc) ∧ W.cell? ⟨ba, 0, none⟩ = some (.slice aa N ca) ∧ W.cell? ⟨bm, 0, none⟩ = some (.slice am nm cm) ∧ True) W) := Lib.hid (fun W hB => by
    have h1 := (hB.block bc (Array.getElem?_eq_some_iff.1 hc).1).trans hc
    have h2 := (hB.block ba (Array.getElem?_eq_some_iff.1 ha).1).trans ha
    have h3 := (hB.block bm (Array.getElem?_eq_some_iff.1 hm).1).trans hm
    exact ⟨blk_cell h1 rfl, blk_cell h1 rfl, blk_cell h1 rfl, blk_cell h2 rfl, blk_cell h3 rfl, trivial⟩)
  clear hK ho hd hx hX hXn hXw hz hZ hZn hZw hsA hA hAo hsM hM hMo hc ha hm l1 l2 l3 l4 hf q0 q1 hN hN2
  conv => arg 2; whnf
  go_wp2_with fail
  by_cases hn2 : nm ≤ 200
  · have g2 : ¬ (200 : Int) < (nm : Int) := by omega
    have g3 : (nm : Int) ≤ (cm : Int) := by omega
    refine wp_calm ?_
    refine bxh_start (S := fun W => W.cell? ⟨bc, 0, none⟩ = some (.int .i64 kc) ∧ W.cell? ⟨bc, 1, none⟩ = some (.int .i64 pc) ∧ W.cell? ⟨bc, 2, none⟩ = some (.int .i64 cc) ∧ W.cell? ⟨ba, 0, none⟩ = some (.slice aa N ca) ∧ W.cell? ⟨bm, 0, none⟩ = some (.slice am nm cm) ∧ True) (by kernel_rfl) ?_
    have hS : (fun W : World => W.cell? ⟨bc, 0, none⟩ = some (.int .i64 kc) ∧ W.cell? ⟨bc, 1, none⟩ = some (.int .i64 pc) ∧ W.cell? ⟨bc, 2, none⟩ = some (.int .i64 cc) ∧ W.cell? ⟨ba, 0, none⟩ = some (.slice aa N ca) ∧ W.cell? ⟨bm, 0, none⟩ = some (.slice am nm cm) ∧ True) w.drew := HS0.out w.drew (Below.refl _ _).drew
    have hBd := Lib.hid (Below.refl w.heap.size w).drew
    refine bxh_take (i := 0) (v := ?_) rfl (by kernel_rfl) (by kernel_rfl) (by kernel_rfl) (fun _ _ _ h => h) (Or.inl ⟨by kernel_rfl, ?_⟩) (by assumption) ?_; rotate_left; (intro w hSw; obtain ⟨q0, q1, q2, q3, q4, q5⟩ := hSw; go_simp <;> with_reducible rfl); (simp only [Act.put, List.getElem_toArray, List.getElem_cons_zero, List.getElem_cons_succ, List.setIfInBounds_toArray, List.set_cons_zero, List.set_cons_succ])
    refine bxh_take (i := 1) (v := ?_) rfl (by kernel_rfl) (by kernel_rfl) (by kernel_rfl) (fun _ _ _ h => h) (Or.inl ⟨by kernel_rfl, ?_⟩) (by assumption) ?_; rotate_left; (intro w hSw; obtain ⟨q0, q1, q2, q3, q4, q5⟩ := hSw; go_simp <;> with_reducible rfl); (simp only [Act.put, List.getElem_toArray, List.getElem_cons_zero, List.getElem_cons_succ, List.setIfInBounds_toArray, List.set_cons_zero, List.set_cons_succ])
    refine bxh_take (i := 2) (v := ?_) rfl (by kernel_rfl) (by kernel_rfl) (by kernel_rfl) (fun _ _ _ h => h) (Or.inl ⟨by kernel_rfl, ?_⟩) (by assumption) ?_; rotate_left; (intro w hSw; obtain ⟨q0, q1, q2, q3, q4, q5⟩ := hSw; go_simp <;> with_reducible rfl); (simp only [Act.put, List.getElem_toArray, List.getElem_cons_zero, List.getElem_cons_succ, List.setIfInBounds_toArray, List.set_cons_zero, List.set_cons_succ])
    refine bxh_take (i := 3) (v := ?_) rfl (by kernel_rfl) (by kernel_rfl) (by kernel_rfl) (fun _ _ _ h => h) (Or.inl ⟨by kernel_rfl, ?_⟩) (by assumption) ?_; rotate_left; (intro w hSw; obtain ⟨q0, q1, q2, q3, q4, q5⟩ := hSw; go_simp <;> with_reducible rfl); (simp only [Act.put, List.getElem_toArray, List.getElem_cons_zero, List.getElem_cons_succ, List.setIfInBounds_toArray, List.set_cons_zero, List.set_cons_succ])
    refine bxh_take (i := 4) (v := ?_) rfl (by kernel_rfl) (by kernel_rfl) (by kernel_rfl) (fun _ _ _ h => h) (Or.inl ⟨by kernel_rfl, ?_⟩) (by assumption) ?_; rotate_left; (intro w hSw; obtain ⟨q0, q1, q2, q3, q4, q5⟩ := hSw; go_simp <;> with_reducible rfl); (simp only [Act.put, List.getElem_toArray, List.getElem_cons_zero, List.getElem_cons_succ, List.setIfInBounds_toArray, List.set_cons_zero, List.set_cons_succ])
    refine bxh_take (i := 6) (v := ?_) rfl (by kernel_rfl) (by kernel_rfl) (by kernel_rfl) (fun _ _ _ h => h) (Or.inl ⟨by kernel_rfl, ?_⟩) (by assumption) ?_; rotate_left; (intro w hSw; obtain ⟨q0, q1, q2, q3, q4, q5⟩ := hSw; go_simp <;> with_reducible rfl); (simp only [Act.put, List.getElem_toArray, List.getElem_cons_zero, List.getElem_cons_succ, List.setIfInBounds_toArray, List.set_cons_zero, List.set_cons_succ])
    refine bxh_take (i := 7) (v := ?_) rfl (by kernel_rfl) (by kernel_rfl) (by kernel_rfl) (fun _ _ _ h => h) (Or.inl ⟨by kernel_rfl, ?_⟩) (by assumption) ?_; rotate_left; (intro w hSw; obtain ⟨q0, q1, q2, q3, q4, q5⟩ := hSw; go_simp <;> with_reducible rfl); (simp only [Act.put, List.getElem_toArray, List.getElem_cons_zero, List.getElem_cons_succ, List.setIfInBounds_toArray, List.set_cons_zero, List.set_cons_succ])
    refine bxh_take (i := 8) (v := ?_) rfl (by kernel_rfl) (by kernel_rfl) (by kernel_rfl) (fun _ _ _ h => h) (Or.inl ⟨by kernel_rfl, ?_⟩) (by assumption) ?_; rotate_left; (intro w hSw; obtain ⟨q0, q1, q2, q3, q4, q5⟩ := hSw; go_simp <;> with_reducible rfl); (simp only [Act.put, List.getElem_toArray, List.getElem_cons_zero, List.getElem_cons_succ, List.setIfInBounds_toArray, List.set_cons_zero, List.set_cons_succ])
    refine bxh_take (i := 9) (v := ?_) rfl (by kernel_rfl) (by kernel_rfl) (by kernel_rfl) (fun _ _ _ h => h) (Or.inl ⟨by kernel_rfl, ?_⟩) (by assumption) ?_; rotate_left; (intro w hSw; obtain ⟨q0, q1, q2, q3, q4, q5⟩ := hSw; go_simp <;> with_reducible rfl); (simp only [Act.put, List.getElem_toArray, List.getElem_cons_zero, List.getElem_cons_succ, List.setIfInBounds_toArray, List.set_cons_zero, List.set_cons_succ])
    refine bxh_take (i := 11) (v := ?_) rfl (by kernel_rfl) (by kernel_rfl) (by kernel_rfl) (fun _ _ _ h => h) (Or.inl ⟨by kernel_rfl, ?_⟩) (by assumption) ?_; rotate_left; (intro w hSw; obtain ⟨q0, q1, q2, q3, q4, q5⟩ := hSw; go_simp <;> with_reducible rfl); (simp only [Act.put, List.getElem_toArray, List.getElem_cons_zero, List.getElem_cons_succ, List.setIfInBounds_toArray, List.set_cons_zero, List.set_cons_succ])
    refine bxh_take (i := 12) (v := ?_) rfl (by kernel_rfl) (by kernel_rfl) (by kernel_rfl) (fun _ _ _ h => h) (Or.inl ⟨by kernel_rfl, ?_⟩) (by assumption) ?_; rotate_left; (intro w hSw; obtain ⟨q0, q1, q2, q3, q4, q5⟩ := hSw; go_simp <;> with_reducible rfl); (simp only [Act.put, List.getElem_toArray, List.getElem_cons_zero, List.getElem_cons_succ, List.setIfInBounds_toArray, List.set_cons_zero, List.set_cons_succ])
    refine bxh_take (i := 13) (v := ?_) rfl (by kernel_rfl) (by kernel_rfl) (by kernel_rfl) (fun _ _ _ h => h) (Or.inl ⟨by kernel_rfl, ?_⟩) (by assumption) ?_; rotate_left; (intro w hSw; obtain ⟨q0, q1, q2, q3, q4, q5⟩ := hSw; go_simp <;> with_reducible rfl); (simp only [Act.put, List.getElem_toArray, List.getElem_cons_zero, List.getElem_cons_succ, List.setIfInBounds_toArray, List.set_cons_zero, List.set_cons_succ])
    refine bxh_take (i := 14) (v := ?_) rfl (by kernel_rfl) (by kernel_rfl) (by kernel_rfl) (fun _ _ _ h => h) (Or.inl ⟨by kernel_rfl, ?_⟩) (by assumption) ?_; rotate_left; (intro w hSw; obtain ⟨q0, q1, q2, q3, q4, q5⟩ := hSw; go_simp <;> with_reducible rfl); (simp only [Act.put, List.getElem_toArray, List.getElem_cons_zero, List.getElem_cons_succ, List.setIfInBounds_toArray, List.set_cons_zero, List.set_cons_succ])
    refine bxh_take (i := 15) (v := ?_) rfl (by kernel_rfl) (by kernel_rfl) (by kernel_rfl) (fun _ _ _ h => h) (Or.inl ⟨by kernel_rfl, ?_⟩) (by assumption) ?_; rotate_left; (intro w hSw; obtain ⟨q0, q1, q2, q3, q4, q5⟩ := hSw; go_simp <;> with_reducible rfl); (simp only [Act.put, List.getElem_toArray, List.getElem_cons_zero, List.getElem_cons_succ, List.setIfInBounds_toArray, List.set_cons_zero, List.set_cons_succ])
    refine bxh_take (i := 16) (v := ?_) rfl (by kernel_rfl) (by kernel_rfl) (by kernel_rfl) (fun _ _ _ h => h) (Or.inl ⟨by kernel_rfl, ?_⟩) (by assumption) ?_; rotate_left; (intro w hSw; obtain ⟨q0, q1, q2, q3, q4, q5⟩ := hSw; go_simp <;> with_reducible rfl); (simp only [Act.put, List.getElem_toArray, List.getElem_cons_zero, List.getElem_cons_succ, List.setIfInBounds_toArray, List.set_cons_zero, List.set_cons_succ])
    refine bxh_take (i := 17) (v := ?_) rfl (by kernel_rfl) (by kernel_rfl) (by kernel_rfl) (fun _ _ _ h => h) (Or.inl ⟨by kernel_rfl, ?_⟩) (by assumption) ?_; rotate_left; (intro w hSw; obtain ⟨q0, q1, q2, q3, q4, q5⟩ := hSw; go_simp <;> with_reducible rfl); (simp only [Act.put, List.getElem_toArray, List.getElem_cons_zero, List.getElem_cons_succ, List.setIfInBounds_toArray, List.set_cons_zero, List.set_cons_succ])
    refine bxh_take (i := 18) (v := ?_) rfl (by kernel_rfl) (by kernel_rfl) (by kernel_rfl) (fun _ _ _ h => h) (Or.inl ⟨by kernel_rfl, ?_⟩) (by assumption) ?_; rotate_left; (intro w hSw; obtain ⟨q0, q1, q2, q3, q4, q5⟩ := hSw; go_simp <;> with_reducible rfl); (simp only [Act.put, List.getElem_toArray, List.getElem_cons_zero, List.getElem_cons_succ, List.setIfInBounds_toArray, List.set_cons_zero, List.set_cons_succ])
    refine bxh_take (i := 21) (v := ?_) rfl (by kernel_rfl) (by kernel_rfl) (by kernel_rfl) (fun _ _ _ h => h) (Or.inl ⟨by kernel_rfl, ?_⟩) (by assumption) ?_; rotate_left; (intro w hSw; obtain ⟨q0, q1, q2, q3, q4, q5⟩ := hSw; go_simp <;> with_reducible rfl); (simp only [Act.put, List.getElem_toArray, List.getElem_cons_zero, List.getElem_cons_succ, List.setIfInBounds_toArray, List.set_cons_zero, List.set_cons_succ])
    refine bxh_next (i := 5) (by kernel_rfl) rfl (fun K hK => ?_)
    go_simp
    refine (CW.out _ _ _ _ _ hBd.out (HXs.out.below hBd.out) HX.out.1 HX.out.2.1 HX.out.2.2).mono ?_
    rintro e w1 ⟨v1, c1, M1, rfl, hM1, hO1, hS1, hb⟩
    have hB1 := Lib.hid (hBd.out.trans (hb.mono hBd.out.size))
    have H1 := Lib.hid (And.intro hM1 (And.intro hO1 hS1))
    clear hb hM1 hO1 hS1
    refine hK.out _ _ (HS0.out _ hB1.out) (fun hS => ?_)
    clear hK
    refine bxh_next (i := 10) (by kernel_rfl) rfl (fun K hK => ?_)
    go_simp
    refine (CW.out _ _ _ _ _ hB1.out (HZs.out.below hB1.out) HZ.out.1 HZ.out.2.1 HZ.out.2.2).mono ?_
    rintro e w2 ⟨v2, c2, M2, rfl, hM2, hO2, hS2, hb⟩
    have hB2 := Lib.hid (hB1.out.trans (hb.mono hB1.out.size))
    have H2 := Lib.hid (And.intro hM2 (And.intro hO2 hS2))
    have H1 := Lib.hid (And.intro H1.out.1 (And.intro H1.out.2.1 (H1.out.2.2.below hb)))
    clear hb hM2 hO2 hS2
    refine hK.out _ _ (HS0.out _ hB2.out) (fun hS => ?_)
    clear hK
    refine bxh_next (i := 19) (by kernel_rfl) rfl (fun K hK => ?_)
    go_simp
    obtain ⟨W1, hW1⟩ : ∃ W1, w2.alloc (.cells #[.slice aa N ca, .slice v1 N c1, .slice v2 N c2, .slice am nm cm] 32) = W1 := ⟨_, rfl⟩
    obtain ⟨b1, hb1⟩ : ∃ b1, w2.heap.size = b1 := ⟨_, rfl⟩
    have hBa : Below w2.heap.size w2 W1 := by rw [← hW1]; exact blk_alloc _ _
    have z1 : W1.heap[b1]? = some (.cells #[.slice aa N ca, .slice v1 N c1, .slice v2 N c2, .slice am nm cm] 32 (0, 0)) := by rw [← hW1, ← hb1]; exact World.alloc_heap_new _ _
    have HB3 := Lib.hid (hB2.out.trans (hBa.mono hB2.out.size))
    have HL : Hid (∀ j : Nat, j < 4 → ∀ W, Below W1.heap.size W1 W → ∃ a n cp X, W.cell? ⟨b1, j, none⟩ = some (.slice a n cp) ∧ Sl W (.slice a n cp) n (cls X) ∧ X.length = n ∧ n ≤ 1000000 ∧ MemOk X) := Lib.hid (fun j hj W hB => by
      have hb := (hB.block b1 (Array.getElem?_eq_some_iff.1 z1).1).trans z1
      have hBW := HB3.out.trans (hB.mono HB3.out.size)
      rcases (show j = 0 ∨ j = 1 ∨ j = 2 ∨ j = 3 by omega) with rfl | rfl | rfl | rfl
      · exact ⟨_, _, _, A, blk_cell hb rfl, HAs.out.below hBW, HA.out.1, HA.out.2.1, HA.out.2.2⟩
      · exact ⟨_, _, _, M1, blk_cell hb rfl, (H1.out.2.2.below hBa).below hB, H1.out.1, HA.out.2.1, H1.out.2.1⟩
      · exact ⟨_, _, _, M2, blk_cell hb rfl, (H2.out.2.2.below hBa).below hB, H2.out.1, HA.out.2.1, H2.out.2.1⟩
      · exact ⟨_, _, _, M.take nm, blk_cell hb rfl, (sl_take HMs.out (by omega) (cls_take M nm)).below hBW, by rw [List.length_take]; have := HMo.out.1; omega, by omega, fun x hx => HMo.out.2 x (List.mem_of_mem_take hx)⟩)
    rw [hb1]
    refine hK.out _ _ (by rw [hW1]; exact HS0.out _ HB3.out) (fun hS => ?_)
    change Bx (wpAnyH _ _ _ _ _ _ _ _ ?_)
    rw [hW1]
    rw [hW1] at hS
    clear hK hW1 hb1 z1 hBa H1 H2 hB2
    refine bxh_take (i := 20) (v := ?_) rfl (by kernel_rfl) (by kernel_rfl) (by kernel_rfl) (fun _ _ _ h => h) (Or.inl ⟨by kernel_rfl, ?_⟩) (by assumption) ?_; rotate_left; (intro w hSw; obtain ⟨q0, q1, q2, q3, q4, q5⟩ := hSw; go_simp <;> with_reducible rfl); (simp only [Act.put, List.getElem_toArray, List.getElem_cons_zero, List.getElem_cons_succ, List.setIfInBounds_toArray, List.set_cons_zero, List.set_cons_succ])
    refine bxh_done (by kernel_rfl) ?_ _
    clear hS
    go_wp2_with fail
    have hbd := (Array.getElem?_eq_some_iff.1 HD.out).1
    go_loopw [300] (fun i wr => ∃ j : Nat, j ≤ 4 ∧ i = .int .i64 j ∧ Hid (Below W1.heap.size W1 wr)) (fun i _ => 4 - (intOf i).toNat)
    case atStart => exact ⟨0, by omega, rfl, Lib.hid (Below.refl _ _)⟩
    case round =>
      obtain ⟨j, hj, rfl, hB⟩ := hrel
      have HBw := Lib.hid (HB3.out.trans (hB.out.mono HB3.out.size))
      by_cases hlt : j = 4
      · subst hlt
        go_wp2
        exact HK.out _ _ _ _ _ _ _ _ _ _ _ _ _ _ _ _ _ _ _ _ _ _ _ _ _ _ _ _ _ _ _ _ _ _ _ _ _ _ _ _ _ _ _ _ _ _ _ _ _ _ _ _ _ _ _ _ _ _ _ _ _ _ _ _ _ _ _ _ _ _ _ _ _ _ _ _ _ _ _ _ _ _ _ _ _ _ _ _ _ _ _ _ _ _ _ HBw.out
      · have hj2 : j < 4 := by omega
        obtain ⟨a, n, cp, X, hz, hSl, hXl, hXn, hXo⟩ := HL.out j hj2 wr hB.out
        have HXX := Lib.hid (And.intro hSl (And.intro hXl (And.intro hXn hXo)))
        clear hlt hj hSl hXl hXn hXo
        obtain ⟨W7, hW7⟩ : ∃ W7, (wr.alloc (memBox a n cp)).alloc (.cells #[.int .i64 p_, .int .i64 q_] 3) = W7 := ⟨_, rfl⟩
        have hBr : Below wr.heap.size wr W7 := by rw [← hW7]; exact (blk_alloc _ _).trans ((blk_alloc _ _).mono (by simp))
        have HB7 := Lib.hid (HBw.out.trans (hBr.mono HBw.out.size))
        have HBR := Lib.hid hBr
        have y7 : W7.heap[wr.heap.size]? = some (memBox a n cp) := by rw [← hW7]; exact blk_alloc' (World.alloc_heap_new wr _)
        have z7 : W7.heap[wr.heap.size + 1]? = some (.cells #[.int .i64 p_, .int .i64 q_] 3 (0, 0)) := by rw [← hW7]; exact alloc_at _ _ (by simp)
        have YZ := Lib.hid (And.intro y7 z7)
        have HW7 := Lib.hid hW7
        clear hBr y7 z7 hW7
        go_wp2_with fail
        rw [HW7.out]
        refine law_mem k p c p_ q_ bd wr.heap.size n cp a X (wr.heap.size + 1) W7 YZ.out.2 (HO.out.below HB7.out) ((HB7.out.block bd hbd).trans HD.out) YZ.out.1 (HXX.out.1.below HBR.out) HXX.out.2.1 HXX.out.2.2.1 HXX.out.2.2.2 _ _ ?_
        intro e22 e62 e63 e64 e65 e66 e67 e68 e69 e70 e308 e309 e310 e311 e312 e313 e314 e315 e316 e317 e318 e319 e320 e321 e322 e323 e324 e325 e326 e327 e328 e329 e330 e331 e332 e333 e334 e335 e336 e337 e338 e339 e340 e341 e342 e343 e344 e345 e346 e347 e348 e349 e350 e351 e352 e353 e354 e355 e356 e357 e358 e359 e360 w8 hb8
        have HB8 := Lib.hid (hB.out.trans ((HBR.out.trans (hb8.mono HBR.out.size)).mono hB.out.size))
        clear hb8
        go_wp2
        go_roundw
        case rel => exact ⟨j + 1, by omega, by go_num, HB8⟩
        case measure => simp [intOf]; omega
  · have g2 : (200 : Int) < (nm : Int) := by omega
    have g3 : (200 : Int) ≤ (cm : Int) := by omega
    refine wp_calm ?_
    refine bxh_start (S := fun W => W.cell? ⟨bc, 0, none⟩ = some (.int .i64 kc) ∧ W.cell? ⟨bc, 1, none⟩ = some (.int .i64 pc) ∧ W.cell? ⟨bc, 2, none⟩ = some (.int .i64 cc) ∧ W.cell? ⟨ba, 0, none⟩ = some (.slice aa N ca) ∧ W.cell? ⟨bm, 0, none⟩ = some (.slice am nm cm) ∧ True) (by kernel_rfl) ?_
    have hS : (fun W : World => W.cell? ⟨bc, 0, none⟩ = some (.int .i64 kc) ∧ W.cell? ⟨bc, 1, none⟩ = some (.int .i64 pc) ∧ W.cell? ⟨bc, 2, none⟩ = some (.int .i64 cc) ∧ W.cell? ⟨ba, 0, none⟩ = some (.slice aa N ca) ∧ W.cell? ⟨bm, 0, none⟩ = some (.slice am nm cm) ∧ True) w.drew := HS0.out w.drew (Below.refl _ _).drew
    have hBd := Lib.hid (Below.refl w.heap.size w).drew
    refine bxh_take (i := 0) (v := ?_) rfl (by kernel_rfl) (by kernel_rfl) (by kernel_rfl) (fun _ _ _ h => h) (Or.inl ⟨by kernel_rfl, ?_⟩) (by assumption) ?_; rotate_left; (intro w hSw; obtain ⟨q0, q1, q2, q3, q4, q5⟩ := hSw; go_simp <;> with_reducible rfl); (simp only [Act.put, List.getElem_toArray, List.getElem_cons_zero, List.getElem_cons_succ, List.setIfInBounds_toArray, List.set_cons_zero, List.set_cons_succ])
    refine bxh_take (i := 1) (v := ?_) rfl (by kernel_rfl) (by kernel_rfl) (by kernel_rfl) (fun _ _ _ h => h) (Or.inl ⟨by kernel_rfl, ?_⟩) (by assumption) ?_; rotate_left; (intro w hSw; obtain ⟨q0, q1, q2, q3, q4, q5⟩ := hSw; go_simp <;> with_reducible rfl); (simp only [Act.put, List.getElem_toArray, List.getElem_cons_zero, List.getElem_cons_succ, List.setIfInBounds_toArray, List.set_cons_zero, List.set_cons_succ])
    refine bxh_take (i := 2) (v := ?_) rfl (by kernel_rfl) (by kernel_rfl) (by kernel_rfl) (fun _ _ _ h => h) (Or.inl ⟨by kernel_rfl, ?_⟩) (by assumption) ?_; rotate_left; (intro w hSw; obtain ⟨q0, q1, q2, q3, q4, q5⟩ := hSw; go_simp <;> with_reducible rfl); (simp only [Act.put, List.getElem_toArray, List.getElem_cons_zero, List.getElem_cons_succ, List.setIfInBounds_toArray, List.set_cons_zero, List.set_cons_succ])
    refine bxh_take (i := 3) (v := ?_) rfl (by kernel_rfl) (by kernel_rfl) (by kernel_rfl) (fun _ _ _ h => h) (Or.inl ⟨by kernel_rfl, ?_⟩) (by assumption) ?_; rotate_left; (intro w hSw; obtain ⟨q0, q1, q2, q3, q4, q5⟩ := hSw; go_simp <;> with_reducible rfl); (simp only [Act.put, List.getElem_toArray, List.getElem_cons_zero, List.getElem_cons_succ, List.setIfInBounds_toArray, List.set_cons_zero, List.set_cons_succ])
    refine bxh_take (i := 4) (v := ?_) rfl (by kernel_rfl) (by kernel_rfl) (by kernel_rfl) (fun _ _ _ h => h) (Or.inl ⟨by kernel_rfl, ?_⟩) (by assumption) ?_; rotate_left; (intro w hSw; obtain ⟨q0, q1, q2, q3, q4, q5⟩ := hSw; go_simp <;> with_reducible rfl); (simp only [Act.put, List.getElem_toArray, List.getElem_cons_zero, List.getElem_cons_succ, List.setIfInBounds_toArray, List.set_cons_zero, List.set_cons_succ])
    refine bxh_take (i := 6) (v := ?_) rfl (by kernel_rfl) (by kernel_rfl) (by kernel_rfl) (fun _ _ _ h => h) (Or.inl ⟨by kernel_rfl, ?_⟩) (by assumption) ?_; rotate_left; (intro w hSw; obtain ⟨q0, q1, q2, q3, q4, q5⟩ := hSw; go_simp <;> with_reducible rfl); (simp only [Act.put, List.getElem_toArray, List.getElem_cons_zero, List.getElem_cons_succ, List.setIfInBounds_toArray, List.set_cons_zero, List.set_cons_succ])
    refine bxh_take (i := 7) (v := ?_) rfl (by kernel_rfl) (by kernel_rfl) (by kernel_rfl) (fun _ _ _ h => h) (Or.inl ⟨by kernel_rfl, ?_⟩) (by assumption) ?_; rotate_left; (intro w hSw; obtain ⟨q0, q1, q2, q3, q4, q5⟩ := hSw; go_simp <;> with_reducible rfl); (simp only [Act.put, List.getElem_toArray, List.getElem_cons_zero, List.getElem_cons_succ, List.setIfInBounds_toArray, List.set_cons_zero, List.set_cons_succ])
    refine bxh_take (i := 8) (v := ?_) rfl (by kernel_rfl) (by kernel_rfl) (by kernel_rfl) (fun _ _ _ h => h) (Or.inl ⟨by kernel_rfl, ?_⟩) (by assumption) ?_; rotate_left; (intro w hSw; obtain ⟨q0, q1, q2, q3, q4, q5⟩ := hSw; go_simp <;> with_reducible rfl); (simp only [Act.put, List.getElem_toArray, List.getElem_cons_zero, List.getElem_cons_succ, List.setIfInBounds_toArray, List.set_cons_zero, List.set_cons_succ])
    refine bxh_take (i := 9) (v := ?_) rfl (by kernel_rfl) (by kernel_rfl) (by kernel_rfl) (fun _ _ _ h => h) (Or.inl ⟨by kernel_rfl, ?_⟩) (by assumption) ?_; rotate_left; (intro w hSw; obtain ⟨q0, q1, q2, q3, q4, q5⟩ := hSw; go_simp <;> with_reducible rfl); (simp only [Act.put, List.getElem_toArray, List.getElem_cons_zero, List.getElem_cons_succ, List.setIfInBounds_toArray, List.set_cons_zero, List.set_cons_succ])
    refine bxh_take (i := 11) (v := ?_) rfl (by kernel_rfl) (by kernel_rfl) (by kernel_rfl) (fun _ _ _ h => h) (Or.inl ⟨by kernel_rfl, ?_⟩) (by assumption) ?_; rotate_left; (intro w hSw; obtain ⟨q0, q1, q2, q3, q4, q5⟩ := hSw; go_simp <;> with_reducible rfl); (simp only [Act.put, List.getElem_toArray, List.getElem_cons_zero, List.getElem_cons_succ, List.setIfInBounds_toArray, List.set_cons_zero, List.set_cons_succ])
    refine bxh_take (i := 12) (v := ?_) rfl (by kernel_rfl) (by kernel_rfl) (by kernel_rfl) (fun _ _ _ h => h) (Or.inl ⟨by kernel_rfl, ?_⟩) (by assumption) ?_; rotate_left; (intro w hSw; obtain ⟨q0, q1, q2, q3, q4, q5⟩ := hSw; go_simp <;> with_reducible rfl); (simp only [Act.put, List.getElem_toArray, List.getElem_cons_zero, List.getElem_cons_succ, List.setIfInBounds_toArray, List.set_cons_zero, List.set_cons_succ])
    refine bxh_take (i := 13) (v := ?_) rfl (by kernel_rfl) (by kernel_rfl) (by kernel_rfl) (fun _ _ _ h => h) (Or.inl ⟨by kernel_rfl, ?_⟩) (by assumption) ?_; rotate_left; (intro w hSw; obtain ⟨q0, q1, q2, q3, q4, q5⟩ := hSw; go_simp <;> with_reducible rfl); (simp only [Act.put, List.getElem_toArray, List.getElem_cons_zero, List.getElem_cons_succ, List.setIfInBounds_toArray, List.set_cons_zero, List.set_cons_succ])
    refine bxh_take (i := 14) (v := ?_) rfl (by kernel_rfl) (by kernel_rfl) (by kernel_rfl) (fun _ _ _ h => h) (Or.inl ⟨by kernel_rfl, ?_⟩) (by assumption) ?_; rotate_left; (intro w hSw; obtain ⟨q0, q1, q2, q3, q4, q5⟩ := hSw; go_simp <;> with_reducible rfl); (simp only [Act.put, List.getElem_toArray, List.getElem_cons_zero, List.getElem_cons_succ, List.setIfInBounds_toArray, List.set_cons_zero, List.set_cons_succ])
    refine bxh_take (i := 15) (v := ?_) rfl (by kernel_rfl) (by kernel_rfl) (by kernel_rfl) (fun _ _ _ h => h) (Or.inl ⟨by kernel_rfl, ?_⟩) (by assumption) ?_; rotate_left; (intro w hSw; obtain ⟨q0, q1, q2, q3, q4, q5⟩ := hSw; go_simp <;> with_reducible rfl); (simp only [Act.put, List.getElem_toArray, List.getElem_cons_zero, List.getElem_cons_succ, List.setIfInBounds_toArray, List.set_cons_zero, List.set_cons_succ])
    refine bxh_take (i := 16) (v := ?_) rfl (by kernel_rfl) (by kernel_rfl) (by kernel_rfl) (fun _ _ _ h => h) (Or.inl ⟨by kernel_rfl, ?_⟩) (by assumption) ?_; rotate_left; (intro w hSw; obtain ⟨q0, q1, q2, q3, q4, q5⟩ := hSw; go_simp <;> with_reducible rfl); (simp only [Act.put, List.getElem_toArray, List.getElem_cons_zero, List.getElem_cons_succ, List.setIfInBounds_toArray, List.set_cons_zero, List.set_cons_succ])
    refine bxh_take (i := 17) (v := ?_) rfl (by kernel_rfl) (by kernel_rfl) (by kernel_rfl) (fun _ _ _ h => h) (Or.inl ⟨by kernel_rfl, ?_⟩) (by assumption) ?_; rotate_left; (intro w hSw; obtain ⟨q0, q1, q2, q3, q4, q5⟩ := hSw; go_simp <;> with_reducible rfl); (simp only [Act.put, List.getElem_toArray, List.getElem_cons_zero, List.getElem_cons_succ, List.setIfInBounds_toArray, List.set_cons_zero, List.set_cons_succ])
    refine bxh_take (i := 18) (v := ?_) rfl (by kernel_rfl) (by kernel_rfl) (by kernel_rfl) (fun _ _ _ h => h) (Or.inl ⟨by kernel_rfl, ?_⟩) (by assumption) ?_; rotate_left; (intro w hSw; obtain ⟨q0, q1, q2, q3, q4, q5⟩ := hSw; go_simp <;> with_reducible rfl); (simp only [Act.put, List.getElem_toArray, List.getElem_cons_zero, List.getElem_cons_succ, List.setIfInBounds_toArray, List.set_cons_zero, List.set_cons_succ])
    refine bxh_take (i := 21) (v := ?_) rfl (by kernel_rfl) (by kernel_rfl) (by kernel_rfl) (fun _ _ _ h => h) (Or.inl ⟨by kernel_rfl, ?_⟩) (by assumption) ?_; rotate_left; (intro w hSw; obtain ⟨q0, q1, q2, q3, q4, q5⟩ := hSw; go_simp <;> with_reducible rfl); (simp only [Act.put, List.getElem_toArray, List.getElem_cons_zero, List.getElem_cons_succ, List.setIfInBounds_toArray, List.set_cons_zero, List.set_cons_succ])
    refine bxh_next (i := 5) (by kernel_rfl) rfl (fun K hK => ?_)
    go_simp
    refine (CW.out _ _ _ _ _ hBd.out (HXs.out.below hBd.out) HX.out.1 HX.out.2.1 HX.out.2.2).mono ?_
    rintro e w1 ⟨v1, c1, M1, rfl, hM1, hO1, hS1, hb⟩
    have hB1 := Lib.hid (hBd.out.trans (hb.mono hBd.out.size))
    have H1 := Lib.hid (And.intro hM1 (And.intro hO1 hS1))
    clear hb hM1 hO1 hS1
    refine hK.out _ _ (HS0.out _ hB1.out) (fun hS => ?_)
    clear hK
    refine bxh_next (i := 10) (by kernel_rfl) rfl (fun K hK => ?_)
    go_simp
    refine (CW.out _ _ _ _ _ hB1.out (HZs.out.below hB1.out) HZ.out.1 HZ.out.2.1 HZ.out.2.2).mono ?_
    rintro e w2 ⟨v2, c2, M2, rfl, hM2, hO2, hS2, hb⟩
    have hB2 := Lib.hid (hB1.out.trans (hb.mono hB1.out.size))
    have H2 := Lib.hid (And.intro hM2 (And.intro hO2 hS2))
    have H1 := Lib.hid (And.intro H1.out.1 (And.intro H1.out.2.1 (H1.out.2.2.below hb)))
    clear hb hM2 hO2 hS2
    refine hK.out _ _ (HS0.out _ hB2.out) (fun hS => ?_)
    clear hK
    refine bxh_next (i := 19) (by kernel_rfl) rfl (fun K hK => ?_)
    go_simp
    obtain ⟨W1, hW1⟩ : ∃ W1, w2.alloc (.cells #[.slice aa N ca, .slice v1 N c1, .slice v2 N c2, .slice am 200 cm] 32) = W1 := ⟨_, rfl⟩
    obtain ⟨b1, hb1⟩ : ∃ b1, w2.heap.size = b1 := ⟨_, rfl⟩
    have hBa : Below w2.heap.size w2 W1 := by rw [← hW1]; exact blk_alloc _ _
    have z1 : W1.heap[b1]? = some (.cells #[.slice aa N ca, .slice v1 N c1, .slice v2 N c2, .slice am 200 cm] 32 (0, 0)) := by rw [← hW1, ← hb1]; exact World.alloc_heap_new _ _
    have HB3 := Lib.hid (hB2.out.trans (hBa.mono hB2.out.size))
    have HL : Hid (∀ j : Nat, j < 4 → ∀ W, Below W1.heap.size W1 W → ∃ a n cp X, W.cell? ⟨b1, j, none⟩ = some (.slice a n cp) ∧ Sl W (.slice a n cp) n (cls X) ∧ X.length = n ∧ n ≤ 1000000 ∧ MemOk X) := Lib.hid (fun j hj W hB => by
      have hb := (hB.block b1 (Array.getElem?_eq_some_iff.1 z1).1).trans z1
      have hBW := HB3.out.trans (hB.mono HB3.out.size)
      rcases (show j = 0 ∨ j = 1 ∨ j = 2 ∨ j = 3 by omega) with rfl | rfl | rfl | rfl
      · exact ⟨_, _, _, A, blk_cell hb rfl, HAs.out.below hBW, HA.out.1, HA.out.2.1, HA.out.2.2⟩
      · exact ⟨_, _, _, M1, blk_cell hb rfl, (H1.out.2.2.below hBa).below hB, H1.out.1, HA.out.2.1, H1.out.2.1⟩
      · exact ⟨_, _, _, M2, blk_cell hb rfl, (H2.out.2.2.below hBa).below hB, H2.out.1, HA.out.2.1, H2.out.2.1⟩
      · exact ⟨_, _, _, M.take 200, blk_cell hb rfl, (sl_take HMs.out (by omega) (cls_take M 200)).below hBW, by rw [List.length_take]; have := HMo.out.1; omega, by omega, fun x hx => HMo.out.2 x (List.mem_of_mem_take hx)⟩)
    rw [hb1]
    refine hK.out _ _ (by rw [hW1]; exact HS0.out _ HB3.out) (fun hS => ?_)
    change Bx (wpAnyH _ _ _ _ _ _ _ _ ?_)
    rw [hW1]
    rw [hW1] at hS
    clear hK hW1 hb1 z1 hBa H1 H2 hB2
    refine bxh_take (i := 20) (v := ?_) rfl (by kernel_rfl) (by kernel_rfl) (by kernel_rfl) (fun _ _ _ h => h) (Or.inl ⟨by kernel_rfl, ?_⟩) (by assumption) ?_; rotate_left; (intro w hSw; obtain ⟨q0, q1, q2, q3, q4, q5⟩ := hSw; go_simp <;> with_reducible rfl); (simp only [Act.put, List.getElem_toArray, List.getElem_cons_zero, List.getElem_cons_succ, List.setIfInBounds_toArray, List.set_cons_zero, List.set_cons_succ])
    refine bxh_done (by kernel_rfl) ?_ _
    clear hS
    go_wp2_with fail
    have hbd := (Array.getElem?_eq_some_iff.1 HD.out).1
    go_loopw [300] (fun i wr => ∃ j : Nat, j ≤ 4 ∧ i = .int .i64 j ∧ Hid (Below W1.heap.size W1 wr)) (fun i _ => 4 - (intOf i).toNat)
    case atStart => exact ⟨0, by omega, rfl, Lib.hid (Below.refl _ _)⟩
    case round =>
      obtain ⟨j, hj, rfl, hB⟩ := hrel
      have HBw := Lib.hid (HB3.out.trans (hB.out.mono HB3.out.size))
      by_cases hlt : j = 4
      · subst hlt
        go_wp2
        exact HK.out _ _ _ _ _ _ _ _ _ _ _ _ _ _ _ _ _ _ _ _ _ _ _ _ _ _ _ _ _ _ _ _ _ _ _ _ _ _ _ _ _ _ _ _ _ _ _ _ _ _ _ _ _ _ _ _ _ _ _ _ _ _ _ _ _ _ _ _ _ _ _ _ _ _ _ _ _ _ _ _ _ _ _ _ _ _ _ _ _ _ _ _ _ _ _ HBw.out
      · have hj2 : j < 4 := by omega
        obtain ⟨a, n, cp, X, hz, hSl, hXl, hXn, hXo⟩ := HL.out j hj2 wr hB.out
        have HXX := Lib.hid (And.intro hSl (And.intro hXl (And.intro hXn hXo)))
        clear hlt hj hSl hXl hXn hXo
        obtain ⟨W7, hW7⟩ : ∃ W7, (wr.alloc (memBox a n cp)).alloc (.cells #[.int .i64 p_, .int .i64 q_] 3) = W7 := ⟨_, rfl⟩
        have hBr : Below wr.heap.size wr W7 := by rw [← hW7]; exact (blk_alloc _ _).trans ((blk_alloc _ _).mono (by simp))
        have HB7 := Lib.hid (HBw.out.trans (hBr.mono HBw.out.size))
        have HBR := Lib.hid hBr
        have y7 : W7.heap[wr.heap.size]? = some (memBox a n cp) := by rw [← hW7]; exact blk_alloc' (World.alloc_heap_new wr _)
        have z7 : W7.heap[wr.heap.size + 1]? = some (.cells #[.int .i64 p_, .int .i64 q_] 3 (0, 0)) := by rw [← hW7]; exact alloc_at _ _ (by simp)
        have YZ := Lib.hid (And.intro y7 z7)
        have HW7 := Lib.hid hW7
        clear hBr y7 z7 hW7
        go_wp2_with fail
        rw [HW7.out]
        refine law_mem k p c p_ q_ bd wr.heap.size n cp a X (wr.heap.size + 1) W7 YZ.out.2 (HO.out.below HB7.out) ((HB7.out.block bd hbd).trans HD.out) YZ.out.1 (HXX.out.1.below HBR.out) HXX.out.2.1 HXX.out.2.2.1 HXX.out.2.2.2 _ _ ?_
        intro e22 e62 e63 e64 e65 e66 e67 e68 e69 e70 e308 e309 e310 e311 e312 e313 e314 e315 e316 e317 e318 e319 e320 e321 e322 e323 e324 e325 e326 e327 e328 e329 e330 e331 e332 e333 e334 e335 e336 e337 e338 e339 e340 e341 e342 e343 e344 e345 e346 e347 e348 e349 e350 e351 e352 e353 e354 e355 e356 e357 e358 e359 e360 w8 hb8
        have HB8 := Lib.hid (hB.out.trans ((HBR.out.trans (hb8.mono HBR.out.size)).mono hB.out.size))
        clear hb8
        go_wp2
        go_roundw
        case rel => exact ⟨j + 1, by omega, by go_num, HB8⟩
        case measure => simp [intOf]; omega

end Go.Proofs.YthigfjelgbdcfaaDoor
