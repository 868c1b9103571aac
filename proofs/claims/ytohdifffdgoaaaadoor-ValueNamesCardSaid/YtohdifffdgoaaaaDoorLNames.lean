/- ValueNames: for every input the call returns true and the arguments read as before. Condition: the listed package-level variables read as the program's text lays them (the card ties them). -/
import Derived.Test.YtohdifffdgoaaaaDoorCards
import Derived.Test.YtohdifffdgoaaaaDoorTie
import Derived.Test.YtohdifffdgoaaaaDoorVEnv2
import Derived.Test.YtohdifffdgoaaaaDoorLNamesT
import Derived.ProofKit
import Derived.SizedLaws
import Derived.OpenShut
import Derived.ShutString
import Derived.Carry
namespace Go.Proofs.YtohdifffdgoaaaaDoor
open Go.RowKit
open Go.Lib (hid)
open V
set_option maxRecDepth 100000 in
set_option maxHeartbeats 20000000 in
theorem names_13 (w w21 : World) (x13 x4 x3 x2 x1 : Nat) (c0 c5 c7 c9 c11 c15 c17 c19 c20 c21 c22 c23 c24 c25 c26 c27 c28 c29 c30 c31 c32 c33 c34 c35 c36 c37 c38 c39 c40 c41 c42 c43 c44 c45 c46 c47 c48 c49 c50 c51 c52 c53 c54 c55 c56 c57 c58 c59 c60 c61 c62 c63 c64 c65 c66 c67 c68 c69 c70 c71 c72 c73 c74 c75 c76 c77 c78 c79 c80 c81 c82 c83 c84 c85 c86 c87 c88 c89 c90 c91 c92 c93 c94 c95 c96 c97 c98 c99 c100 c101 c102 c103 c104 c105 c106 c107 c108 c109 c110 c111 c112 c113 c114 c115 c116 c117 c118 c119 c120 c121 c122 c123 c124 c125 c126 c127 c128 c129 c130 c131 c132 c133 c134 c135 c136 c137 c138 c139 c140 c141 c142 c143 c144 c145 c146 c147 c148 c149 c150 c151 c152 c153 c154 c155 c156 c157 c158 c159 c160 c161 c162 c163 c164 c165 c166 c167 c168 c169 c170 c171 c172 c173 c174 c175 c176 c177 c178 c179 c180 c181 c182 c183 c184 c185 c186 c187 c188 c189 c190 c191 c192 c193 c194 c195 c196 c197 c198 c199 c200 c201 c202 c203 c204 c205 c206 c207 c208 c209 c210 c211 c212 c213 c214 c215 c216 c217 c218 c219 c220 c221 c222 c223 c224 c225 c226 c227 c228 c229 c230 c231 c232 c233 c234 c235 c236 c237 c238 c239 c240 c241 c242 c243 c244 c245 c246 c247 c248 c249 c250 c251 c252 c253 c254 c255 c256 c257 c258 c259 c260 c261 c262 c263 c264 c265 c266 c267 c268 c269 c270 c271 c272 c273 c274 c275 c276 c277 c278 c279 c280 c281 c282 c283 c284 c285 c286 c287 c288 c289 c290 c291 c292 c293 c294 c295 c296 c297 c298 c299 c300 c301 c302 c303 c304 c305 c306 c307 c308 c309 c310 c311 c312 c313 c314 c315 c316 c317 c318 c319 c320 c321 c322 c323 c324 c325 c326 c327 c328 c329 c330 c331 c332 c333 c334 c335 c336 c337 c338 : Value) (hE : VEnv w) (hK : KV [(x13, ⟨1, 0, false, ⟨#[]⟩⟩), (x4, ⟨1, (-1), false, ⟨#[]⟩⟩), (x3, ⟨1, 1, false, ⟨#[]⟩⟩), (x2, ⟨1, 9223372036854775807, false, ⟨#[]⟩⟩), (x1, ⟨1, (-9223372036854775808), false, ⟨#[]⟩⟩)] w w21) :
    Code.wp Tryd.prog (namesTail 13) (bodyPost Tryd.prog Tryd.f10 (fun e w' => e = .returned (.bool true) ∧ Below w.heap.size w w')) ⟨(c0 :: (.pointer (some ⟨x1, 0, none⟩)) :: (.pointer (some ⟨x2, 0, none⟩)) :: (.pointer (some ⟨x3, 0, none⟩)) :: (.pointer (some ⟨x4, 0, none⟩)) :: c5 :: (.int .i64 91) :: c7 :: (.int .i64 91) :: c9 :: (.int .i64 91) :: c11 :: (.int .i64 91) :: (.pointer (some ⟨x13, 0, none⟩)) :: (.int .i64 0) :: c15 :: (.int .i64 91) :: c17 :: (.int .i64 91) :: c19 :: c20 :: c21 :: c22 :: c23 :: c24 :: c25 :: c26 :: c27 :: c28 :: c29 :: c30 :: c31 :: c32 :: c33 :: c34 :: c35 :: c36 :: c37 :: c38 :: c39 :: c40 :: c41 :: c42 :: c43 :: c44 :: c45 :: c46 :: c47 :: c48 :: c49 :: c50 :: c51 :: c52 :: c53 :: c54 :: c55 :: c56 :: c57 :: c58 :: c59 :: c60 :: c61 :: c62 :: c63 :: c64 :: c65 :: c66 :: c67 :: c68 :: c69 :: c70 :: c71 :: c72 :: c73 :: c74 :: c75 :: c76 :: c77 :: c78 :: c79 :: c80 :: c81 :: c82 :: c83 :: c84 :: c85 :: c86 :: c87 :: c88 :: c89 :: c90 :: c91 :: c92 :: c93 :: c94 :: c95 :: c96 :: c97 :: c98 :: c99 :: c100 :: c101 :: c102 :: c103 :: c104 :: c105 :: c106 :: c107 :: c108 :: c109 :: c110 :: c111 :: c112 :: c113 :: c114 :: c115 :: c116 :: c117 :: c118 :: c119 :: c120 :: c121 :: c122 :: c123 :: c124 :: c125 :: c126 :: c127 :: c128 :: c129 :: c130 :: c131 :: c132 :: c133 :: c134 :: c135 :: c136 :: c137 :: c138 :: c139 :: c140 :: c141 :: c142 :: c143 :: c144 :: c145 :: c146 :: c147 :: c148 :: c149 :: c150 :: c151 :: c152 :: c153 :: c154 :: c155 :: c156 :: c157 :: c158 :: c159 :: c160 :: c161 :: c162 :: c163 :: c164 :: c165 :: c166 :: c167 :: c168 :: c169 :: c170 :: c171 :: c172 :: c173 :: c174 :: c175 :: c176 :: c177 :: c178 :: c179 :: c180 :: c181 :: c182 :: c183 :: c184 :: c185 :: c186 :: c187 :: c188 :: c189 :: c190 :: c191 :: c192 :: c193 :: c194 :: c195 :: c196 :: c197 :: c198 :: c199 :: c200 :: c201 :: c202 :: c203 :: c204 :: c205 :: c206 :: c207 :: c208 :: c209 :: c210 :: c211 :: c212 :: c213 :: c214 :: c215 :: c216 :: c217 :: c218 :: c219 :: c220 :: c221 :: c222 :: c223 :: c224 :: c225 :: c226 :: c227 :: c228 :: c229 :: c230 :: c231 :: c232 :: c233 :: c234 :: c235 :: c236 :: c237 :: c238 :: c239 :: c240 :: c241 :: c242 :: c243 :: c244 :: c245 :: c246 :: c247 :: c248 :: c249 :: c250 :: c251 :: c252 :: c253 :: c254 :: c255 :: c256 :: c257 :: c258 :: c259 :: c260 :: c261 :: c262 :: c263 :: c264 :: c265 :: c266 :: c267 :: c268 :: c269 :: c270 :: c271 :: c272 :: c273 :: c274 :: c275 :: c276 :: c277 :: c278 :: c279 :: c280 :: c281 :: c282 :: c283 :: c284 :: c285 :: c286 :: c287 :: c288 :: c289 :: c290 :: c291 :: c292 :: c293 :: c294 :: c295 :: c296 :: c297 :: c298 :: c299 :: c300 :: c301 :: c302 :: c303 :: c304 :: c305 :: c306 :: c307 :: c308 :: c309 :: c310 :: c311 :: c312 :: c313 :: c314 :: c315 :: c316 :: c317 :: c318 :: c319 :: c320 :: c321 :: c322 :: c323 :: c324 :: c325 :: c326 :: c327 :: c328 :: c329 :: c330 :: c331 :: c332 :: c333 :: c334 :: c335 :: c336 :: c337 :: c338 :: []).toArray, []⟩ w21 := by
  conv => arg 2; whnf
  have HE := hid hE
  have HK := hid hK
  clear hE hK
  have h0 : w21.heap[x1]? = some (.cells #[.int .u8 1, .int .i64 (-9223372036854775808), .bool false, .string ⟨#[]⟩] 23 (0, 0)) := HK.out.got (x1, ⟨1, (-9223372036854775808), false, ⟨#[]⟩⟩) (by simp)
  obtain ⟨x10, x11, x12, x13⟩ := row4 h0
  clear h0
  go_wp2_with fail
  refine (nm_n1 _ (HE.out.below HK.out.hb).tabs).mono ?_
  rintro e w22 ⟨rfl, bb⟩
  have HK1 := hid (HK.out.below bb)
  clear bb HK 
  have HK := hid HK1.out
  clear HK1
  clear x10 x11 x12 x13
  go_upto_region 15 with fail
  have HK1 := hid (kvalloc HK.out (.cells #[.int .u8 0, .int .i64 0, .bool false, .string ⟨#[]⟩] 23))
  generalize World.alloc w22 _ = w23 at *
  clear HK
  have HK := hid HK1.out
  clear HK1
  go_upto_region 15 with fail
  obtain ⟨M, hM⟩ : ∃ M, w23.heap.size = M := ⟨_, rfl⟩
  have HM : Hid (KY [(x13, ⟨1, 0, false, ⟨#[]⟩⟩), (x4, ⟨1, (-1), false, ⟨#[]⟩⟩), (x3, ⟨1, 1, false, ⟨#[]⟩⟩), (x2, ⟨1, 9223372036854775807, false, ⟨#[]⟩⟩), (x1, ⟨1, (-9223372036854775808), false, ⟨#[]⟩⟩)] M w w23) := ⟨HK.out, by
    intro p hp
    rw [← hM]; exact Go.lt_of_block (HK.out.got p hp), by rw [← hM]; exact HK.out.hb.size⟩
  have HSZ : Hid (M ≤ w23.heap.size) := by show _ ≤ _; omega
  clear hM HK
  go_cut [22] (fun s wc => s = .int .i64 90 ∧ Hid (KV [(x13, ⟨1, 0, false, ⟨#[]⟩⟩), (x4, ⟨1, (-1), false, ⟨#[]⟩⟩), (x3, ⟨1, 1, false, ⟨#[]⟩⟩), (x2, ⟨1, 9223372036854775807, false, ⟨#[]⟩⟩), (x1, ⟨1, (-9223372036854775808), false, ⟨#[]⟩⟩)] w wc))
  case first =>
    have k4 : ∀ r : World, Hid (KY [(x13, ⟨1, 0, false, ⟨#[]⟩⟩), (x4, ⟨1, (-1), false, ⟨#[]⟩⟩), (x3, ⟨1, 1, false, ⟨#[]⟩⟩), (x2, ⟨1, 9223372036854775807, false, ⟨#[]⟩⟩), (x1, ⟨1, (-9223372036854775808), false, ⟨#[]⟩⟩)] M w r) → World.cell? r ⟨x3, 0, none⟩ = some (.int .u8 1) ∧ World.cell? r ⟨x3, 1, none⟩ = some (.int .i64 1) ∧ World.cell? r ⟨x3, 2, none⟩ = some (.bool false) ∧ World.cell? r ⟨x3, 3, none⟩ = some (.string ⟨#[]⟩) ∧ Hid (KY [(x13, ⟨1, 0, false, ⟨#[]⟩⟩), (x4, ⟨1, (-1), false, ⟨#[]⟩⟩), (x3, ⟨1, 1, false, ⟨#[]⟩⟩), (x2, ⟨1, 9223372036854775807, false, ⟨#[]⟩⟩), (x1, ⟨1, (-9223372036854775808), false, ⟨#[]⟩⟩)] M w r) := fun r h => by
      obtain ⟨a0, a1, a2, a3⟩ := row4 (h.out.kv.got (x3, ⟨1, 1, false, ⟨#[]⟩⟩) (by simp))
      exact ⟨a0, a1, a2, a3, h⟩
    first | go_region_held3 (fun w' => World.cell? w' ⟨x3, 0, none⟩ = some (.int .u8 1) ∧ World.cell? w' ⟨x3, 1, none⟩ = some (.int .i64 1) ∧ World.cell? w' ⟨x3, 2, none⟩ = some (.bool false) ∧ World.cell? w' ⟨x3, 3, none⟩ = some (.string ⟨#[]⟩) ∧ Hid (KY [(x13, ⟨1, 0, false, ⟨#[]⟩⟩), (x4, ⟨1, (-1), false, ⟨#[]⟩⟩), (x3, ⟨1, 1, false, ⟨#[]⟩⟩), (x2, ⟨1, 9223372036854775807, false, ⟨#[]⟩⟩), (x1, ⟨1, (-9223372036854775808), false, ⟨#[]⟩⟩)] M w w'))
        (first
          | assumption
          | exact k4 _ (hid HM.out.drew)
          | exact k4 _ (ky_after (of4 (by assumption)) b2)
          | exact k4 _ (ky_after (of4 (by assumption)) b1)
          | exact k4 _ (ky_set (of4 (by assumption)) hM)
          | exact k4 _ (ky_swap (of4 (by assumption)) (Nat.le_trans (Nat.le_trans HSZ.out b1.size) b2.size))
          | exact k4 _ (ky_alloc (of4 (by assumption))))
        (first
          | (go_at_call 44; refine (words_any ⟨#[97]⟩ _).mono ?_; rintro e ww ⟨rfl, b1⟩; first | (have hN := ny_heldD b1 HSZ.out; obtain ⟨n0, n1, n2, n3⟩ := row4 hN.1; obtain ⟨f0, f1, f2, f3⟩ := free4 hN.1) | (have hN := ny_held b1 HSZ.out; obtain ⟨n0, n1, n2, n3⟩ := row4 hN.1; obtain ⟨f0, f1, f2, f3⟩ := free4 hN.1) | skip)
          | (go_at_call 12; refine (nm_a2 _ (kyE HE (of4 (by assumption))).tabs).mono ?_; rintro e ww ⟨rfl, b2⟩; first | (have hM := ny_after b2 hN; obtain ⟨m0, m1, m2, m3⟩ := row4 hM.1; obtain ⟨f0, f1, f2, f3⟩ := free4 hM.1) | (have hM := ny_held b2 (Nat.le_trans HSZ.out b1.size); obtain ⟨m0, m1, m2, m3⟩ := row4 hM.1; obtain ⟨f0, f1, f2, f3⟩ := free4 hM.1) | skip)) | fail
    all_goals
      go_split_ands
      have B2 := hid (Hid.out (p := KY [(x13, ⟨1, 0, false, ⟨#[]⟩⟩), (x4, ⟨1, (-1), false, ⟨#[]⟩⟩), (x3, ⟨1, 1, false, ⟨#[]⟩⟩), (x2, ⟨1, 9223372036854775807, false, ⟨#[]⟩⟩), (x1, ⟨1, (-9223372036854775808), false, ⟨#[]⟩⟩)] M w _) (by assumption))
      clear HM
      go_wp2_with fail
      go_meet
      exact ⟨rfl, hid B2.out.kv⟩
  case rest =>
    obtain ⟨rfl, hK⟩ := hcut
    apply_assumption
    exact names_15 w wc x13 x4 x3 x2 x1 _ _ _ _ _ _ _ _ _ _ _ _ _ _ _ _ _ _ _ _ _ _ _ _ _ _ _ _ _ _ _ _ _ _ _ _ _ _ _ _ _ _ _ _ _ _ _ _ _ _ _ _ _ _ _ _ _ _ _ _ _ _ _ _ _ _ _ _ _ _ _ _ _ _ _ _ _ _ _ _ _ _ _ _ _ _ _ _ _ _ _ _ _ _ _ _ _ _ _ _ _ _ _ _ _ _ _ _ _ _ _ _ _ _ _ _ _ _ _ _ _ _ _ _ _ _ _ _ _ _ _ _ _ _ _ _ _ _ _ _ _ _ _ _ _ _ _ _ _ _ _ _ _ _ _ _ _ _ _ _ _ _ _ _ _ _ _ _ _ _ _ _ _ _ _ _ _ _ _ _ _ _ _ _ _ _ _ _ _ _ _ _ _ _ _ _ _ _ _ _ _ _ _ _ _ _ _ _ _ _ _ _ _ _ _ _ _ _ _ _ _ _ _ _ _ _ _ _ _ _ _ _ _ _ _ _ _ _ _ _ _ _ _ _ _ _ _ _ _ _ _ _ _ _ _ _ _ _ _ _ _ _ _ _ _ _ _ _ _ _ _ _ _ _ _ _ _ _ _ _ _ _ _ _ _ _ _ _ _ _ _ _ _ _ _ _ _ _ _ _ _ _ _ _ _ _ _ _ _ _ _ _ _ _ _ _ _ _ _ _ _ _ _ _ _ HE.out hK.out
set_option maxRecDepth 100000 in
set_option maxHeartbeats 20000000 in
theorem names_12 (w w20 : World) (x13 x4 x3 x2 x1 : Nat) (c0 c5 c7 c9 c11 c15 c17 c18 c19 c20 c21 c22 c23 c24 c25 c26 c27 c28 c29 c30 c31 c32 c33 c34 c35 c36 c37 c38 c39 c40 c41 c42 c43 c44 c45 c46 c47 c48 c49 c50 c51 c52 c53 c54 c55 c56 c57 c58 c59 c60 c61 c62 c63 c64 c65 c66 c67 c68 c69 c70 c71 c72 c73 c74 c75 c76 c77 c78 c79 c80 c81 c82 c83 c84 c85 c86 c87 c88 c89 c90 c91 c92 c93 c94 c95 c96 c97 c98 c99 c100 c101 c102 c103 c104 c105 c106 c107 c108 c109 c110 c111 c112 c113 c114 c115 c116 c117 c118 c119 c120 c121 c122 c123 c124 c125 c126 c127 c128 c129 c130 c131 c132 c133 c134 c135 c136 c137 c138 c139 c140 c141 c142 c143 c144 c145 c146 c147 c148 c149 c150 c151 c152 c153 c154 c155 c156 c157 c158 c159 c160 c161 c162 c163 c164 c165 c166 c167 c168 c169 c170 c171 c172 c173 c174 c175 c176 c177 c178 c179 c180 c181 c182 c183 c184 c185 c186 c187 c188 c189 c190 c191 c192 c193 c194 c195 c196 c197 c198 c199 c200 c201 c202 c203 c204 c205 c206 c207 c208 c209 c210 c211 c212 c213 c214 c215 c216 c217 c218 c219 c220 c221 c222 c223 c224 c225 c226 c227 c228 c229 c230 c231 c232 c233 c234 c235 c236 c237 c238 c239 c240 c241 c242 c243 c244 c245 c246 c247 c248 c249 c250 c251 c252 c253 c254 c255 c256 c257 c258 c259 c260 c261 c262 c263 c264 c265 c266 c267 c268 c269 c270 c271 c272 c273 c274 c275 c276 c277 c278 c279 c280 c281 c282 c283 c284 c285 c286 c287 c288 c289 c290 c291 c292 c293 c294 c295 c296 c297 c298 c299 c300 c301 c302 c303 c304 c305 c306 c307 c308 c309 c310 c311 c312 c313 c314 c315 c316 c317 c318 c319 c320 c321 c322 c323 c324 c325 c326 c327 c328 c329 c330 c331 c332 c333 c334 c335 c336 c337 c338 : Value) (hE : VEnv w) (hK : KV [(x13, ⟨1, 0, false, ⟨#[]⟩⟩), (x4, ⟨1, (-1), false, ⟨#[]⟩⟩), (x3, ⟨1, 1, false, ⟨#[]⟩⟩), (x2, ⟨1, 9223372036854775807, false, ⟨#[]⟩⟩), (x1, ⟨1, (-9223372036854775808), false, ⟨#[]⟩⟩)] w w20) :
    Code.wp Tryd.prog (namesTail 12) (bodyPost Tryd.prog Tryd.f10 (fun e w' => e = .returned (.bool true) ∧ Below w.heap.size w w')) ⟨(c0 :: (.pointer (some ⟨x1, 0, none⟩)) :: (.pointer (some ⟨x2, 0, none⟩)) :: (.pointer (some ⟨x3, 0, none⟩)) :: (.pointer (some ⟨x4, 0, none⟩)) :: c5 :: (.int .i64 91) :: c7 :: (.int .i64 91) :: c9 :: (.int .i64 91) :: c11 :: (.int .i64 91) :: (.pointer (some ⟨x13, 0, none⟩)) :: (.int .i64 0) :: c15 :: (.int .i64 91) :: c17 :: c18 :: c19 :: c20 :: c21 :: c22 :: c23 :: c24 :: c25 :: c26 :: c27 :: c28 :: c29 :: c30 :: c31 :: c32 :: c33 :: c34 :: c35 :: c36 :: c37 :: c38 :: c39 :: c40 :: c41 :: c42 :: c43 :: c44 :: c45 :: c46 :: c47 :: c48 :: c49 :: c50 :: c51 :: c52 :: c53 :: c54 :: c55 :: c56 :: c57 :: c58 :: c59 :: c60 :: c61 :: c62 :: c63 :: c64 :: c65 :: c66 :: c67 :: c68 :: c69 :: c70 :: c71 :: c72 :: c73 :: c74 :: c75 :: c76 :: c77 :: c78 :: c79 :: c80 :: c81 :: c82 :: c83 :: c84 :: c85 :: c86 :: c87 :: c88 :: c89 :: c90 :: c91 :: c92 :: c93 :: c94 :: c95 :: c96 :: c97 :: c98 :: c99 :: c100 :: c101 :: c102 :: c103 :: c104 :: c105 :: c106 :: c107 :: c108 :: c109 :: c110 :: c111 :: c112 :: c113 :: c114 :: c115 :: c116 :: c117 :: c118 :: c119 :: c120 :: c121 :: c122 :: c123 :: c124 :: c125 :: c126 :: c127 :: c128 :: c129 :: c130 :: c131 :: c132 :: c133 :: c134 :: c135 :: c136 :: c137 :: c138 :: c139 :: c140 :: c141 :: c142 :: c143 :: c144 :: c145 :: c146 :: c147 :: c148 :: c149 :: c150 :: c151 :: c152 :: c153 :: c154 :: c155 :: c156 :: c157 :: c158 :: c159 :: c160 :: c161 :: c162 :: c163 :: c164 :: c165 :: c166 :: c167 :: c168 :: c169 :: c170 :: c171 :: c172 :: c173 :: c174 :: c175 :: c176 :: c177 :: c178 :: c179 :: c180 :: c181 :: c182 :: c183 :: c184 :: c185 :: c186 :: c187 :: c188 :: c189 :: c190 :: c191 :: c192 :: c193 :: c194 :: c195 :: c196 :: c197 :: c198 :: c199 :: c200 :: c201 :: c202 :: c203 :: c204 :: c205 :: c206 :: c207 :: c208 :: c209 :: c210 :: c211 :: c212 :: c213 :: c214 :: c215 :: c216 :: c217 :: c218 :: c219 :: c220 :: c221 :: c222 :: c223 :: c224 :: c225 :: c226 :: c227 :: c228 :: c229 :: c230 :: c231 :: c232 :: c233 :: c234 :: c235 :: c236 :: c237 :: c238 :: c239 :: c240 :: c241 :: c242 :: c243 :: c244 :: c245 :: c246 :: c247 :: c248 :: c249 :: c250 :: c251 :: c252 :: c253 :: c254 :: c255 :: c256 :: c257 :: c258 :: c259 :: c260 :: c261 :: c262 :: c263 :: c264 :: c265 :: c266 :: c267 :: c268 :: c269 :: c270 :: c271 :: c272 :: c273 :: c274 :: c275 :: c276 :: c277 :: c278 :: c279 :: c280 :: c281 :: c282 :: c283 :: c284 :: c285 :: c286 :: c287 :: c288 :: c289 :: c290 :: c291 :: c292 :: c293 :: c294 :: c295 :: c296 :: c297 :: c298 :: c299 :: c300 :: c301 :: c302 :: c303 :: c304 :: c305 :: c306 :: c307 :: c308 :: c309 :: c310 :: c311 :: c312 :: c313 :: c314 :: c315 :: c316 :: c317 :: c318 :: c319 :: c320 :: c321 :: c322 :: c323 :: c324 :: c325 :: c326 :: c327 :: c328 :: c329 :: c330 :: c331 :: c332 :: c333 :: c334 :: c335 :: c336 :: c337 :: c338 :: []).toArray, []⟩ w20 := by
  conv => arg 2; whnf
  have HE := hid hE
  have HK := hid hK
  clear hE hK
  go_upto_region 13 with fail
  obtain ⟨M, hM⟩ : ∃ M, w20.heap.size = M := ⟨_, rfl⟩
  have HM : Hid (KY [(x13, ⟨1, 0, false, ⟨#[]⟩⟩), (x4, ⟨1, (-1), false, ⟨#[]⟩⟩), (x3, ⟨1, 1, false, ⟨#[]⟩⟩), (x2, ⟨1, 9223372036854775807, false, ⟨#[]⟩⟩), (x1, ⟨1, (-9223372036854775808), false, ⟨#[]⟩⟩)] M w w20) := ⟨HK.out, by
    intro p hp
    rw [← hM]; exact Go.lt_of_block (HK.out.got p hp), by rw [← hM]; exact HK.out.hb.size⟩
  have HSZ : Hid (M ≤ w20.heap.size) := by show _ ≤ _; omega
  clear hM HK
  go_cut [18] (fun s wc => s = .int .i64 91 ∧ Hid (KV [(x13, ⟨1, 0, false, ⟨#[]⟩⟩), (x4, ⟨1, (-1), false, ⟨#[]⟩⟩), (x3, ⟨1, 1, false, ⟨#[]⟩⟩), (x2, ⟨1, 9223372036854775807, false, ⟨#[]⟩⟩), (x1, ⟨1, (-9223372036854775808), false, ⟨#[]⟩⟩)] w wc))
  case first =>
    have k4 : ∀ r : World, Hid (KY [(x13, ⟨1, 0, false, ⟨#[]⟩⟩), (x4, ⟨1, (-1), false, ⟨#[]⟩⟩), (x3, ⟨1, 1, false, ⟨#[]⟩⟩), (x2, ⟨1, 9223372036854775807, false, ⟨#[]⟩⟩), (x1, ⟨1, (-9223372036854775808), false, ⟨#[]⟩⟩)] M w r) → World.cell? r ⟨x3, 0, none⟩ = some (.int .u8 1) ∧ World.cell? r ⟨x3, 1, none⟩ = some (.int .i64 1) ∧ World.cell? r ⟨x3, 2, none⟩ = some (.bool false) ∧ World.cell? r ⟨x3, 3, none⟩ = some (.string ⟨#[]⟩) ∧ Hid (KY [(x13, ⟨1, 0, false, ⟨#[]⟩⟩), (x4, ⟨1, (-1), false, ⟨#[]⟩⟩), (x3, ⟨1, 1, false, ⟨#[]⟩⟩), (x2, ⟨1, 9223372036854775807, false, ⟨#[]⟩⟩), (x1, ⟨1, (-9223372036854775808), false, ⟨#[]⟩⟩)] M w r) := fun r h => by
      obtain ⟨a0, a1, a2, a3⟩ := row4 (h.out.kv.got (x3, ⟨1, 1, false, ⟨#[]⟩⟩) (by simp))
      exact ⟨a0, a1, a2, a3, h⟩
    first | go_region_held3 (fun w' => World.cell? w' ⟨x3, 0, none⟩ = some (.int .u8 1) ∧ World.cell? w' ⟨x3, 1, none⟩ = some (.int .i64 1) ∧ World.cell? w' ⟨x3, 2, none⟩ = some (.bool false) ∧ World.cell? w' ⟨x3, 3, none⟩ = some (.string ⟨#[]⟩) ∧ Hid (KY [(x13, ⟨1, 0, false, ⟨#[]⟩⟩), (x4, ⟨1, (-1), false, ⟨#[]⟩⟩), (x3, ⟨1, 1, false, ⟨#[]⟩⟩), (x2, ⟨1, 9223372036854775807, false, ⟨#[]⟩⟩), (x1, ⟨1, (-9223372036854775808), false, ⟨#[]⟩⟩)] M w w'))
        (first
          | assumption
          | exact k4 _ (hid HM.out.drew)
          | exact k4 _ (ky_after (of4 (by assumption)) b2)
          | exact k4 _ (ky_after (of4 (by assumption)) b1)
          | exact k4 _ (ky_set (of4 (by assumption)) hM)
          | exact k4 _ (ky_swap (of4 (by assumption)) (Nat.le_trans (Nat.le_trans HSZ.out b1.size) b2.size))
          | exact k4 _ (ky_alloc (of4 (by assumption))))
        (first
          | (go_at_call 42; refine (vnumber_any 0 _).mono ?_; rintro e ww ⟨rfl, b1⟩; first | (have hN := ny_heldD b1 HSZ.out; obtain ⟨n0, n1, n2, n3⟩ := row4 hN.1; obtain ⟨f0, f1, f2, f3⟩ := free4 hN.1) | (have hN := ny_held b1 HSZ.out; obtain ⟨n0, n1, n2, n3⟩ := row4 hN.1; obtain ⟨f0, f1, f2, f3⟩ := free4 hN.1) | skip)
          | (go_at_call 18; refine (nm_o2 _ (kyE HE (of4 (by assumption))).tabs).mono ?_; rintro e ww ⟨rfl, b2⟩; first | (have hM := ny_after b2 hN; obtain ⟨m0, m1, m2, m3⟩ := row4 hM.1; obtain ⟨f0, f1, f2, f3⟩ := free4 hM.1) | (have hM := ny_held b2 (Nat.le_trans HSZ.out b1.size); obtain ⟨m0, m1, m2, m3⟩ := row4 hM.1; obtain ⟨f0, f1, f2, f3⟩ := free4 hM.1) | skip)) | fail
    all_goals
      go_split_ands
      have B2 := hid (Hid.out (p := KY [(x13, ⟨1, 0, false, ⟨#[]⟩⟩), (x4, ⟨1, (-1), false, ⟨#[]⟩⟩), (x3, ⟨1, 1, false, ⟨#[]⟩⟩), (x2, ⟨1, 9223372036854775807, false, ⟨#[]⟩⟩), (x1, ⟨1, (-9223372036854775808), false, ⟨#[]⟩⟩)] M w _) (by assumption))
      clear HM
      go_wp2_with fail
      go_meet
      exact ⟨rfl, hid B2.out.kv⟩
  case rest =>
    obtain ⟨rfl, hK⟩ := hcut
    apply_assumption
    exact names_13 w wc x13 x4 x3 x2 x1 _ _ _ _ _ _ _ _ _ _ _ _ _ _ _ _ _ _ _ _ _ _ _ _ _ _ _ _ _ _ _ _ _ _ _ _ _ _ _ _ _ _ _ _ _ _ _ _ _ _ _ _ _ _ _ _ _ _ _ _ _ _ _ _ _ _ _ _ _ _ _ _ _ _ _ _ _ _ _ _ _ _ _ _ _ _ _ _ _ _ _ _ _ _ _ _ _ _ _ _ _ _ _ _ _ _ _ _ _ _ _ _ _ _ _ _ _ _ _ _ _ _ _ _ _ _ _ _ _ _ _ _ _ _ _ _ _ _ _ _ _ _ _ _ _ _ _ _ _ _ _ _ _ _ _ _ _ _ _ _ _ _ _ _ _ _ _ _ _ _ _ _ _ _ _ _ _ _ _ _ _ _ _ _ _ _ _ _ _ _ _ _ _ _ _ _ _ _ _ _ _ _ _ _ _ _ _ _ _ _ _ _ _ _ _ _ _ _ _ _ _ _ _ _ _ _ _ _ _ _ _ _ _ _ _ _ _ _ _ _ _ _ _ _ _ _ _ _ _ _ _ _ _ _ _ _ _ _ _ _ _ _ _ _ _ _ _ _ _ _ _ _ _ _ _ _ _ _ _ _ _ _ _ _ _ _ _ _ _ _ _ _ _ _ _ _ _ _ _ _ _ _ _ _ _ _ _ _ _ _ _ _ _ _ _ _ _ _ _ _ _ _ _ _ _ _ _ HE.out hK.out
set_option maxRecDepth 100000 in
set_option maxHeartbeats 20000000 in
theorem names_walk (w : World) (hE : VEnv w) : Calls Tryd.prog 10 #[] w fun e w' => e = .returned (.bool true) ∧ Below w.heap.size w w' := by
  have HE := hid hE
  have HK := hid (KV.start w)
  clear hE
  go_enter Tryd.func10, Tryd.ntmps10
  go_wp2_with fail
  refine (works_any _ HE.out).mono ?_
  rintro e w1 ⟨rfl, bb⟩
  have HK1 := hid (HK.out.below bb)
  clear bb HK
  have HK := hid HK1.out
  clear HK1
  go_wp2_with fail
  refine (vnumber_any (-9223372036854775808) _).mono ?_
  rintro e w2 ⟨rfl, bb⟩
  have HK1 := hid (HK.out.below bb)
  clear bb HK 
  have HK := hid HK1.out
  clear HK1
  go_upto_region 4 with fail
  have HK1 : Hid (KV ((w2.heap.size, ⟨1, (-9223372036854775808), false, ⟨#[]⟩⟩) :: []) w (w2.alloc (.cells #[.int .u8 1, .int .i64 (-9223372036854775808), .bool false, .string ⟨#[]⟩] 23))) := HK.out.box ⟨1, (-9223372036854775808), false, ⟨#[]⟩⟩
  generalize World.alloc w2 _ = w3 at *
  obtain ⟨x1, hx1⟩ : ∃ x1, w2.heap.size = x1 := ⟨_, rfl⟩
  rw [hx1] at HK1 ⊢
  clear hx1 HK
  have HK := hid HK1.out
  clear HK1
  go_wp2_with fail
  refine (vnumber_any 9223372036854775807 _).mono ?_
  rintro e w4 ⟨rfl, bb⟩
  have HK1 := hid (HK.out.below bb)
  clear bb HK 
  have HK := hid HK1.out
  clear HK1
  go_upto_region 5 with fail
  have HK1 : Hid (KV ((w4.heap.size, ⟨1, 9223372036854775807, false, ⟨#[]⟩⟩) :: [(x1, ⟨1, (-9223372036854775808), false, ⟨#[]⟩⟩)]) w (w4.alloc (.cells #[.int .u8 1, .int .i64 9223372036854775807, .bool false, .string ⟨#[]⟩] 23))) := HK.out.box ⟨1, 9223372036854775807, false, ⟨#[]⟩⟩
  generalize World.alloc w4 _ = w5 at *
  obtain ⟨x2, hx2⟩ : ∃ x2, w4.heap.size = x2 := ⟨_, rfl⟩
  rw [hx2] at HK1 ⊢
  clear hx2 HK
  have HK := hid HK1.out
  clear HK1
  go_wp2_with fail
  refine (vnumber_any 1 _).mono ?_
  rintro e w6 ⟨rfl, bb⟩
  have HK1 := hid (HK.out.below bb)
  clear bb HK 
  have HK := hid HK1.out
  clear HK1
  go_upto_region 6 with fail
  have HK1 : Hid (KV ((w6.heap.size, ⟨1, 1, false, ⟨#[]⟩⟩) :: [(x2, ⟨1, 9223372036854775807, false, ⟨#[]⟩⟩), (x1, ⟨1, (-9223372036854775808), false, ⟨#[]⟩⟩)]) w (w6.alloc (.cells #[.int .u8 1, .int .i64 1, .bool false, .string ⟨#[]⟩] 23))) := HK.out.box ⟨1, 1, false, ⟨#[]⟩⟩
  generalize World.alloc w6 _ = w7 at *
  obtain ⟨x3, hx3⟩ : ∃ x3, w6.heap.size = x3 := ⟨_, rfl⟩
  rw [hx3] at HK1 ⊢
  clear hx3 HK
  have HK := hid HK1.out
  clear HK1
  go_wp2_with fail
  refine (vnumber_any (-1) _).mono ?_
  rintro e w8 ⟨rfl, bb⟩
  have HK1 := hid (HK.out.below bb)
  clear bb HK 
  have HK := hid HK1.out
  clear HK1
  go_upto_region 7 with fail
  have HK1 : Hid (KV ((w8.heap.size, ⟨1, (-1), false, ⟨#[]⟩⟩) :: [(x3, ⟨1, 1, false, ⟨#[]⟩⟩), (x2, ⟨1, 9223372036854775807, false, ⟨#[]⟩⟩), (x1, ⟨1, (-9223372036854775808), false, ⟨#[]⟩⟩)]) w (w8.alloc (.cells #[.int .u8 1, .int .i64 (-1), .bool false, .string ⟨#[]⟩] 23))) := HK.out.box ⟨1, (-1), false, ⟨#[]⟩⟩
  generalize World.alloc w8 _ = w9 at *
  obtain ⟨x4, hx4⟩ : ∃ x4, w8.heap.size = x4 := ⟨_, rfl⟩
  rw [hx4] at HK1 ⊢
  clear hx4 HK
  have HK := hid HK1.out
  clear HK1
  have h0 : w9.heap[x2]? = some (.cells #[.int .u8 1, .int .i64 9223372036854775807, .bool false, .string ⟨#[]⟩] 23 (0, 0)) := HK.out.got (x2, ⟨1, 9223372036854775807, false, ⟨#[]⟩⟩) (by simp)
  obtain ⟨x20, x21, x22, x23⟩ := row4 h0
  clear h0
  have h0 : w9.heap[x3]? = some (.cells #[.int .u8 1, .int .i64 1, .bool false, .string ⟨#[]⟩] 23 (0, 0)) := HK.out.got (x3, ⟨1, 1, false, ⟨#[]⟩⟩) (by simp)
  obtain ⟨x30, x31, x32, x33⟩ := row4 h0
  clear h0
  go_wp2_with fail
  refine (nm_a1 _ (HE.out.below HK.out.hb).tabs).mono ?_
  rintro e w10 ⟨rfl, bb⟩
  have HK1 := hid (HK.out.below bb)
  clear bb HK 
  have HK := hid HK1.out
  clear HK1
  clear x20 x21 x22 x23 x30 x31 x32 x33
  go_upto_region 8 with fail
  have HK1 := hid (kvalloc HK.out (.cells #[.int .u8 0, .int .i64 0, .bool false, .string ⟨#[]⟩] 23))
  generalize World.alloc w10 _ = w11 at *
  clear HK
  have HK := hid HK1.out
  clear HK1
  have h0 : w11.heap[x1]? = some (.cells #[.int .u8 1, .int .i64 (-9223372036854775808), .bool false, .string ⟨#[]⟩] 23 (0, 0)) := HK.out.got (x1, ⟨1, (-9223372036854775808), false, ⟨#[]⟩⟩) (by simp)
  obtain ⟨x10, x11, x12, x13⟩ := row4 h0
  clear h0
  have h0 : w11.heap[x3]? = some (.cells #[.int .u8 1, .int .i64 1, .bool false, .string ⟨#[]⟩] 23 (0, 0)) := HK.out.got (x3, ⟨1, 1, false, ⟨#[]⟩⟩) (by simp)
  obtain ⟨x30, x31, x32, x33⟩ := row4 h0
  clear h0
  go_wp2_with fail
  refine (nm_s1 _ (HE.out.below HK.out.hb).tabs).mono ?_
  rintro e w12 ⟨rfl, bb⟩
  have HK1 := hid (HK.out.below bb)
  clear bb HK 
  have HK := hid HK1.out
  clear HK1
  clear x10 x11 x12 x13 x30 x31 x32 x33
  go_upto_region 9 with fail
  have HK1 := hid (kvalloc HK.out (.cells #[.int .u8 0, .int .i64 0, .bool false, .string ⟨#[]⟩] 23))
  generalize World.alloc w12 _ = w13 at *
  clear HK
  have HK := hid HK1.out
  clear HK1
  have h0 : w13.heap[x1]? = some (.cells #[.int .u8 1, .int .i64 (-9223372036854775808), .bool false, .string ⟨#[]⟩] 23 (0, 0)) := HK.out.got (x1, ⟨1, (-9223372036854775808), false, ⟨#[]⟩⟩) (by simp)
  obtain ⟨x10, x11, x12, x13⟩ := row4 h0
  clear h0
  have h0 : w13.heap[x4]? = some (.cells #[.int .u8 1, .int .i64 (-1), .bool false, .string ⟨#[]⟩] 23 (0, 0)) := HK.out.got (x4, ⟨1, (-1), false, ⟨#[]⟩⟩) (by simp)
  obtain ⟨x40, x41, x42, x43⟩ := row4 h0
  clear h0
  go_wp2_with fail
  refine (nm_m1 _ (HE.out.below HK.out.hb).tabs).mono ?_
  rintro e w14 ⟨rfl, bb⟩
  have HK1 := hid (HK.out.below bb)
  clear bb HK 
  have HK := hid HK1.out
  clear HK1
  clear x10 x11 x12 x13 x40 x41 x42 x43
  go_upto_region 10 with fail
  have HK1 := hid (kvalloc HK.out (.cells #[.int .u8 0, .int .i64 0, .bool false, .string ⟨#[]⟩] 23))
  generalize World.alloc w14 _ = w15 at *
  clear HK
  have HK := hid HK1.out
  clear HK1
  have h0 : w15.heap[x1]? = some (.cells #[.int .u8 1, .int .i64 (-9223372036854775808), .bool false, .string ⟨#[]⟩] 23 (0, 0)) := HK.out.got (x1, ⟨1, (-9223372036854775808), false, ⟨#[]⟩⟩) (by simp)
  obtain ⟨x10, x11, x12, x13⟩ := row4 h0
  clear h0
  have h0 : w15.heap[x4]? = some (.cells #[.int .u8 1, .int .i64 (-1), .bool false, .string ⟨#[]⟩] 23 (0, 0)) := HK.out.got (x4, ⟨1, (-1), false, ⟨#[]⟩⟩) (by simp)
  obtain ⟨x40, x41, x42, x43⟩ := row4 h0
  clear h0
  go_wp2_with fail
  refine (nm_d1 _ (HE.out.below HK.out.hb).tabs).mono ?_
  rintro e w16 ⟨rfl, bb⟩
  have HK1 := hid (HK.out.below bb)
  clear bb HK 
  have HK := hid HK1.out
  clear HK1
  clear x10 x11 x12 x13 x40 x41 x42 x43
  go_upto_region 11 with fail
  have HK1 := hid (kvalloc HK.out (.cells #[.int .u8 0, .int .i64 0, .bool false, .string ⟨#[]⟩] 23))
  generalize World.alloc w16 _ = w17 at *
  clear HK
  have HK := hid HK1.out
  clear HK1
  have h0 : w17.heap[x1]? = some (.cells #[.int .u8 1, .int .i64 (-9223372036854775808), .bool false, .string ⟨#[]⟩] 23 (0, 0)) := HK.out.got (x1, ⟨1, (-9223372036854775808), false, ⟨#[]⟩⟩) (by simp)
  obtain ⟨x10, x11, x12, x13⟩ := row4 h0
  clear h0
  have h0 : w17.heap[x4]? = some (.cells #[.int .u8 1, .int .i64 (-1), .bool false, .string ⟨#[]⟩] 23 (0, 0)) := HK.out.got (x4, ⟨1, (-1), false, ⟨#[]⟩⟩) (by simp)
  obtain ⟨x40, x41, x42, x43⟩ := row4 h0
  clear h0
  go_wp2_with fail
  refine (nm_o1 _ (HE.out.below HK.out.hb).tabs).mono ?_
  rintro e w18 ⟨rfl, bb⟩
  have HK1 := hid (HK.out.below bb)
  clear bb HK 
  have HK := hid HK1.out
  clear HK1
  clear x10 x11 x12 x13 x40 x41 x42 x43
  go_upto_region 12 with fail
  have HK1 : Hid (KV ((w18.heap.size, ⟨1, 0, false, ⟨#[]⟩⟩) :: [(x4, ⟨1, (-1), false, ⟨#[]⟩⟩), (x3, ⟨1, 1, false, ⟨#[]⟩⟩), (x2, ⟨1, 9223372036854775807, false, ⟨#[]⟩⟩), (x1, ⟨1, (-9223372036854775808), false, ⟨#[]⟩⟩)]) w (w18.alloc (.cells #[.int .u8 1, .int .i64 0, .bool false, .string ⟨#[]⟩] 23))) := HK.out.box ⟨1, 0, false, ⟨#[]⟩⟩
  generalize World.alloc w18 _ = w19 at *
  obtain ⟨x13, hx13⟩ : ∃ x13, w18.heap.size = x13 := ⟨_, rfl⟩
  rw [hx13] at HK1 ⊢
  clear hx13 HK
  have HK := hid HK1.out
  clear HK1
  go_upto_region 12 with fail
  obtain ⟨M, hM⟩ : ∃ M, w19.heap.size = M := ⟨_, rfl⟩
  have HM : Hid (KY [(x13, ⟨1, 0, false, ⟨#[]⟩⟩), (x4, ⟨1, (-1), false, ⟨#[]⟩⟩), (x3, ⟨1, 1, false, ⟨#[]⟩⟩), (x2, ⟨1, 9223372036854775807, false, ⟨#[]⟩⟩), (x1, ⟨1, (-9223372036854775808), false, ⟨#[]⟩⟩)] M w w19) := ⟨HK.out, by
    intro p hp
    rw [← hM]; exact Go.lt_of_block (HK.out.got p hp), by rw [← hM]; exact HK.out.hb.size⟩
  have HSZ : Hid (M ≤ w19.heap.size) := by show _ ≤ _; omega
  clear hM HK
  go_cut [16] (fun s wc => s = .int .i64 91 ∧ Hid (KV [(x13, ⟨1, 0, false, ⟨#[]⟩⟩), (x4, ⟨1, (-1), false, ⟨#[]⟩⟩), (x3, ⟨1, 1, false, ⟨#[]⟩⟩), (x2, ⟨1, 9223372036854775807, false, ⟨#[]⟩⟩), (x1, ⟨1, (-9223372036854775808), false, ⟨#[]⟩⟩)] w wc))
  case first =>
    have k4 : ∀ r : World, Hid (KY [(x13, ⟨1, 0, false, ⟨#[]⟩⟩), (x4, ⟨1, (-1), false, ⟨#[]⟩⟩), (x3, ⟨1, 1, false, ⟨#[]⟩⟩), (x2, ⟨1, 9223372036854775807, false, ⟨#[]⟩⟩), (x1, ⟨1, (-9223372036854775808), false, ⟨#[]⟩⟩)] M w r) → World.cell? r ⟨x3, 0, none⟩ = some (.int .u8 1) ∧ World.cell? r ⟨x3, 1, none⟩ = some (.int .i64 1) ∧ World.cell? r ⟨x3, 2, none⟩ = some (.bool false) ∧ World.cell? r ⟨x3, 3, none⟩ = some (.string ⟨#[]⟩) ∧ Hid (KY [(x13, ⟨1, 0, false, ⟨#[]⟩⟩), (x4, ⟨1, (-1), false, ⟨#[]⟩⟩), (x3, ⟨1, 1, false, ⟨#[]⟩⟩), (x2, ⟨1, 9223372036854775807, false, ⟨#[]⟩⟩), (x1, ⟨1, (-9223372036854775808), false, ⟨#[]⟩⟩)] M w r) := fun r h => by
      obtain ⟨a0, a1, a2, a3⟩ := row4 (h.out.kv.got (x3, ⟨1, 1, false, ⟨#[]⟩⟩) (by simp))
      exact ⟨a0, a1, a2, a3, h⟩
    first | go_region_held3 (fun w' => World.cell? w' ⟨x3, 0, none⟩ = some (.int .u8 1) ∧ World.cell? w' ⟨x3, 1, none⟩ = some (.int .i64 1) ∧ World.cell? w' ⟨x3, 2, none⟩ = some (.bool false) ∧ World.cell? w' ⟨x3, 3, none⟩ = some (.string ⟨#[]⟩) ∧ Hid (KY [(x13, ⟨1, 0, false, ⟨#[]⟩⟩), (x4, ⟨1, (-1), false, ⟨#[]⟩⟩), (x3, ⟨1, 1, false, ⟨#[]⟩⟩), (x2, ⟨1, 9223372036854775807, false, ⟨#[]⟩⟩), (x1, ⟨1, (-9223372036854775808), false, ⟨#[]⟩⟩)] M w w'))
        (first
          | assumption
          | exact k4 _ (hid HM.out.drew)
          | exact k4 _ (ky_after (of4 (by assumption)) b2)
          | exact k4 _ (ky_after (of4 (by assumption)) b1)
          | exact k4 _ (ky_set (of4 (by assumption)) hM)
          | exact k4 _ (ky_swap (of4 (by assumption)) (Nat.le_trans (Nat.le_trans HSZ.out b1.size) b2.size))
          | exact k4 _ (ky_alloc (of4 (by assumption))))
        (first
          | (go_at_call 42; refine (vnumber_any 0 _).mono ?_; rintro e ww ⟨rfl, b1⟩; first | (have hN := ny_heldD b1 HSZ.out; obtain ⟨n0, n1, n2, n3⟩ := row4 hN.1; obtain ⟨f0, f1, f2, f3⟩ := free4 hN.1) | (have hN := ny_held b1 HSZ.out; obtain ⟨n0, n1, n2, n3⟩ := row4 hN.1; obtain ⟨f0, f1, f2, f3⟩ := free4 hN.1) | skip)
          | (go_at_call 17; refine (nm_d2 _ (kyE HE (of4 (by assumption))).tabs).mono ?_; rintro e ww ⟨rfl, b2⟩; first | (have hM := ny_after b2 hN; obtain ⟨m0, m1, m2, m3⟩ := row4 hM.1; obtain ⟨f0, f1, f2, f3⟩ := free4 hM.1) | (have hM := ny_held b2 (Nat.le_trans HSZ.out b1.size); obtain ⟨m0, m1, m2, m3⟩ := row4 hM.1; obtain ⟨f0, f1, f2, f3⟩ := free4 hM.1) | skip)) | fail
    all_goals
      go_split_ands
      have B2 := hid (Hid.out (p := KY [(x13, ⟨1, 0, false, ⟨#[]⟩⟩), (x4, ⟨1, (-1), false, ⟨#[]⟩⟩), (x3, ⟨1, 1, false, ⟨#[]⟩⟩), (x2, ⟨1, 9223372036854775807, false, ⟨#[]⟩⟩), (x1, ⟨1, (-9223372036854775808), false, ⟨#[]⟩⟩)] M w _) (by assumption))
      clear HM
      go_wp2_with fail
      go_meet
      exact ⟨rfl, hid B2.out.kv⟩
  case rest =>
    obtain ⟨rfl, hK⟩ := hcut
    apply_assumption
    exact names_12 w wc x13 x4 x3 x2 x1 _ _ _ _ _ _ _ _ _ _ _ _ _ _ _ _ _ _ _ _ _ _ _ _ _ _ _ _ _ _ _ _ _ _ _ _ _ _ _ _ _ _ _ _ _ _ _ _ _ _ _ _ _ _ _ _ _ _ _ _ _ _ _ _ _ _ _ _ _ _ _ _ _ _ _ _ _ _ _ _ _ _ _ _ _ _ _ _ _ _ _ _ _ _ _ _ _ _ _ _ _ _ _ _ _ _ _ _ _ _ _ _ _ _ _ _ _ _ _ _ _ _ _ _ _ _ _ _ _ _ _ _ _ _ _ _ _ _ _ _ _ _ _ _ _ _ _ _ _ _ _ _ _ _ _ _ _ _ _ _ _ _ _ _ _ _ _ _ _ _ _ _ _ _ _ _ _ _ _ _ _ _ _ _ _ _ _ _ _ _ _ _ _ _ _ _ _ _ _ _ _ _ _ _ _ _ _ _ _ _ _ _ _ _ _ _ _ _ _ _ _ _ _ _ _ _ _ _ _ _ _ _ _ _ _ _ _ _ _ _ _ _ _ _ _ _ _ _ _ _ _ _ _ _ _ _ _ _ _ _ _ _ _ _ _ _ _ _ _ _ _ _ _ _ _ _ _ _ _ _ _ _ _ _ _ _ _ _ _ _ _ _ _ _ _ _ _ _ _ _ _ _ _ _ _ _ _ _ _ _ _ _ _ _ _ _ _ _ _ _ _ _ _ _ _ _ _ _ HE.out hK.out
end Go.Proofs.YtohdifffdgoaaaaDoor
namespace Go.Proofs.YtohdifffdgoaaaaDoor
namespace valueNamesDone
open Go.ChangeShapes Go.WideShapes Go.ChangeAt Go.RowKit
open Go.ChangeMaps (open_string shut_string)
open Go.Shelf

theorem laid_met (os : Os) (args : Array Value) : laidMet Tryd.prog Rows.valueNamesRow.laid ((laidWorld os).forCall (fun _ _ => 0) ⟨#[], args, []⟩).memory :=
  laidMet_of_run' 8 (by kernel_rfl) (by kernel_rfl)
theorem witness_row (os : Os) {H : Type} (enc : TypeId × Value → H) :
    (OpenSpec.ofChange Rows.valueNamesSpec).preRow enc Tryd.prog Tryd.f10 Rows.valueNamesRow.domain false Rows.valueNamesRow.laid ((laidWorld os).forCall (fun _ _ => 0) ⟨#[], #[], []⟩).memory #[] := by
  have hw : (DataW.whole enc Tryd.prog ((laidWorld os).forCall (fun _ _ => 0) ⟨#[], #[], []⟩).memory Tryd.f10.params.toList (OpenSpec.ofChange Rows.valueNamesSpec).vars false (#[] : Array Value).toList 8).map (fun x => (x.1, x.2.1)) =
      some ([], []) := by kernel_rfl
  obtain ⟨⟨x1, x2, x3⟩, hx, hx1⟩ := Option.map_eq_some_iff.1 hw
  simp only [Prod.mk.injEq] at hx1
  obtain ⟨rfl, rfl⟩ := hx1
  exact OpenSpec.preRow_of_cond 8 hx (by kernel_rfl) (fun k hk => by cases hk) (by kernel_rfl) (laid_met os _)

set_option maxRecDepth 100000 in
set_option maxHeartbeats 2000000 in
theorem lifted (os : Os) (started : os.Started) (H : Type) (enc : TypeId × Value → H) (F : Stop.Interp) :
    ReturnsInHanded {} Tryd.checked os 10 .any ((OpenSpec.ofChange Rows.valueNamesSpec).preRow enc Tryd.prog Tryd.f10 Rows.valueNamesRow.domain false Rows.valueNamesRow.laid) (((OpenSpec.ofChange Rows.valueNamesSpec).at F).post enc Tryd.prog Tryd.f10 false true false false) := by
  refine returnsInHanded_of_row (C := Tryd.checked) (s := (OpenSpec.ofChange Rows.valueNamesSpec)) own started (by kernel_rfl) Tryd.func10
    (witness_row_atRef (enc := enc) (C := Tryd.checked) false (laidWorld os) #[] rfl (by kernel_rfl) (by kernel_rfl) (by kernel_rfl) (witness_row os enc)) ?_
  intro W base args ds gs before hval0 hW _ _ hsz hL _ _
  have hval : ∀ (j : Nat) t v, Tryd.f10.params[j]? = some t → args[j]? = some v → Value.okWide Tryd.prog W .any base t v := hval0
  have hW' := hW
  obtain ⟨p, q, hA0, hV, rfl, hfz, hnd⟩ := hW
  have hA : DataW.TrodAll enc Tryd.prog W 0 (fun _ => true) true Tryd.f10.params.toList args.toList ds p := hA0
  rw [Tryd.params10] at hA hval hsz
  obtain ⟨hargs, rfl, rfl⟩ := trodAll_nil hA
  obtain rfl : args = #[] := by cases args; simp_all
  obtain ⟨rfl, rfl⟩ := trodVars_none hV
  clear hA0 hval0
  simp only [List.append_nil] at hW'
  refine (names_walk  W  (env_valueNamesRow hL)).mono fun e W' ⟨he, bel⟩ => ?_
  subst he
  exact ⟨_, rfl, _, _, _, [], [], [], hW', trodAll_mk1 (shut_bool Tryd.underlying4 _), trodAll_mk0, rfl, bel.frame _, fun h => by cases h⟩

theorem said : Rows.ValueNamesSaid :=
  OpenClaim.holds_of_cond 10 Tryd.f10 rfl rfl rfl rfl rfl rfl rfl ⟨rfl, rfl, rfl, rfl, rfl⟩ rfl rfl rfl rfl rfl (by kernel_rfl) Tryd.func10 (by kernel_rfl)
    (of_decide_eq_true (by kernel_rfl)) (by unfold Func.isWrapper; rw [if_neg (of_decide_eq_false (by kernel_rfl))]; exact ⟨rfl, rfl⟩)
    (fun os started H enc _ F => by rw [OpenClaim.pre_eq_preRow]; exact lifted os started H enc F)

/-- No parameter wants a stand-in; the program's own looks are what the card says. -/
theorem plain (f : FuncId) (fn : Func) (hf : Tryd.pinned.checked.prog.funcNamed "tollgate/tollgatelaw09.ValueNames" = some f) (hfn : Tryd.pinned.checked.prog.funcs[f]? = some fn) :
    true = Tryd.pinned.checked.prog.looks [] ∧ ∀ (j : Nat) t, fn.params[j]? = some t → Tryd.pinned.checked.prog.wantsStandIn t = false := by
  obtain rfl : f = 10 := Option.some.inj ((show Tryd.prog.funcNamed "tollgate/tollgatelaw09.ValueNames" = some 10 by kernel_rfl).symm.trans hf) |>.symm
  obtain rfl : fn = Tryd.f10 := (Option.some.inj (Tryd.func10.symm.trans hfn)).symm
  refine ⟨by kernel_rfl, fun j t ht => ?_⟩
  rw [Tryd.params10] at ht
  have hm := Array.mem_of_getElem? ht
  simp at hm

end valueNamesDone
/-- THE CARD -/
theorem valueNames_card : Rows.ValueNamesCardSaid :=
  Claim7.holds_tied_plain_at .later [] _ _ _ _ valueNamesDone.said (fun _ h => by cases h) (by kernel_rfl) (fun _ h => by cases h) valueNames_row_tie rfl ⟨rfl, rfl⟩ (by kernel_rfl) rfl valueNamesDone.plain (by kernel_rfl)
end Go.Proofs.YtohdifffdgoaaaaDoor
