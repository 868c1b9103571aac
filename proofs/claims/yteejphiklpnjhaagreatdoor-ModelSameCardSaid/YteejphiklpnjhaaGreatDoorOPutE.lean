/- put: an element. -/
import Derived.Test.YteejphiklpnjhaaGreatDoorOPutS
namespace Go.Proofs.YteejphiklpnjhaaGreatDoor
set_option maxRecDepth 100000
set_option maxHeartbeats 16000000
open Go.RowKit Go.Maps
open Go.Lib (hid)
def afterRegion (n : Nat) : Code → Option Code
 | .seq (.region k _ _) b => if k = n then some b else afterRegion n b
 | .seq a b => match afterRegion n a with
   | some c => some c
   | none => afterRegion n b
 | .cond _ a b => match afterRegion n a with
   | some c => some c
   | none => afterRegion n b
 | .block _ c => afterRegion n c
 | .loop c => afterRegion n c
 | .scope c => afterRegion n c
 | _ => none
noncomputable def putAfter (n : Nat) : Code := (Tryz.f44.body.bind (afterRegion n)).getD .skip
theorem put_r14 {Qc : Exit → Act → World → Prop} {w : World} {Q K : Nat} {inn ah : List UInt8} {nv : Value} {x : O.It} {c0 c1 c2 c3 c4 c6 c7 c8 c9 c10 c12 c13 c14 c15 c16 c17 c18 c19 c20 c21 c22 c23 c24 c25 c26 c27 c28 c29 c30 c31 c32 c33 c34 c35 c36 c37 c38 c39 c40 c41 c42 c43 c44 c45 c46 c47 c48 c49 c50 c51 c52 c53 c54 c55 c56 c57 c58 c59 c60 c61 c62 c63 c64 c65 c66 c67 c68 c69 c70 c71 c72 c73 c74 c75 c76 c77 c78 c79 c80 c81 c82 c83 c84 c85 c86 c87 c88 c89 c90 c91 c92 c93 c94 c95 c96 c97 c98 c99 c100 c101 c102 c103 c104 c105 c106 c107 c108 c109 c110 c111 c112 c113 c114 c115 c116 c117 c118 c119 c120 c121 c122 c123 c124 c125 c126 c127 c128 c129 c130 c131 c132 c133 c134 c135 c136 c137 c138 c139 c140 c141 c142 c143 c144 c145 c146 c147 c148 c149 c150 c151 c152 c153 c154 c155 c156 c157 c158 c159 c160 c161 c162 c163 c164 c165 c166 c167 c168 c169 c170 c171 c172 c173 : Value} (hQ : w.heap[Q]? = some (.cells #[.string (X.ba inn), .string (X.ba ah), nv] 112 (0, 0))) (hK : w.heap[K]? = some (.cells #[.string (X.ba x.e.id), .string (X.ba x.e.nm), .int .u8 x.e.kind, .string (X.ba x.e.inn), .string (X.ba x.e.dflt), .string (X.ba x.e.att), .int .u8 0, .string ⟨#[]⟩, .string ⟨#[]⟩, .int .i64 0, .int .i64 x.e.tries] 36 (0, 0))) (hah : ah.length ≤ 1000000000) (h1 : x.e.id.length ≤ 100000) (hKQ : K ≠ Q)
  (hq : ∀ (u86 u87 u88 u89 u90 u91 u92 u93 u94 : Value), Qc .normal ⟨(c0 :: c1 :: c2 :: c3 :: c4 :: .pointer (some ⟨Q, 0, none⟩) :: c6 :: c7 :: c8 :: c9 :: c10 :: .pointer (some ⟨K, 0, none⟩) :: c12 :: c13 :: c14 :: c15 :: c16 :: c17 :: c18 :: c19 :: c20 :: c21 :: c22 :: c23 :: c24 :: c25 :: c26 :: c27 :: c28 :: c29 :: c30 :: c31 :: c32 :: c33 :: c34 :: c35 :: c36 :: c37 :: c38 :: c39 :: c40 :: c41 :: c42 :: c43 :: c44 :: c45 :: c46 :: c47 :: c48 :: c49 :: c50 :: c51 :: c52 :: c53 :: c54 :: c55 :: c56 :: c57 :: c58 :: c59 :: c60 :: c61 :: c62 :: c63 :: c64 :: c65 :: c66 :: c67 :: c68 :: c69 :: c70 :: c71 :: c72 :: c73 :: c74 :: c75 :: c76 :: c77 :: c78 :: c79 :: c80 :: c81 :: c82 :: c83 :: c84 :: c85 :: u86 :: u87 :: u88 :: u89 :: u90 :: u91 :: u92 :: u93 :: u94 :: c95 :: c96 :: c97 :: c98 :: c99 :: c100 :: c101 :: c102 :: c103 :: c104 :: c105 :: c106 :: c107 :: c108 :: c109 :: c110 :: c111 :: c112 :: c113 :: c114 :: c115 :: c116 :: c117 :: c118 :: c119 :: c120 :: c121 :: c122 :: c123 :: c124 :: c125 :: c126 :: c127 :: c128 :: c129 :: c130 :: c131 :: c132 :: c133 :: c134 :: c135 :: c136 :: c137 :: c138 :: c139 :: c140 :: c141 :: c142 :: c143 :: c144 :: c145 :: c146 :: c147 :: c148 :: c149 :: c150 :: c151 :: c152 :: c153 :: c154 :: c155 :: c156 :: c157 :: c158 :: c159 :: c160 :: c161 :: c162 :: c163 :: c164 :: c165 :: c166 :: c167 :: c168 :: c169 :: c170 :: c171 :: c172 :: c173 :: []).toArray, []⟩ ((((w).setCell ⟨K, 0, none⟩ (.string (X.ba (ah ++ x.e.id)))).setCell ⟨K, 3, none⟩ (.string (X.ba inn))).drew)) :
  Code.wp Tryz.prog (putReg 14) Qc ⟨(c0 :: c1 :: c2 :: c3 :: c4 :: .pointer (some ⟨Q, 0, none⟩) :: c6 :: c7 :: c8 :: c9 :: c10 :: .pointer (some ⟨K, 0, none⟩) :: c12 :: c13 :: c14 :: c15 :: c16 :: c17 :: c18 :: c19 :: c20 :: c21 :: c22 :: c23 :: c24 :: c25 :: c26 :: c27 :: c28 :: c29 :: c30 :: c31 :: c32 :: c33 :: c34 :: c35 :: c36 :: c37 :: c38 :: c39 :: c40 :: c41 :: c42 :: c43 :: c44 :: c45 :: c46 :: c47 :: c48 :: c49 :: c50 :: c51 :: c52 :: c53 :: c54 :: c55 :: c56 :: c57 :: c58 :: c59 :: c60 :: c61 :: c62 :: c63 :: c64 :: c65 :: c66 :: c67 :: c68 :: c69 :: c70 :: c71 :: c72 :: c73 :: c74 :: c75 :: c76 :: c77 :: c78 :: c79 :: c80 :: c81 :: c82 :: c83 :: c84 :: c85 :: c86 :: c87 :: c88 :: c89 :: c90 :: c91 :: c92 :: c93 :: c94 :: c95 :: c96 :: c97 :: c98 :: c99 :: c100 :: c101 :: c102 :: c103 :: c104 :: c105 :: c106 :: c107 :: c108 :: c109 :: c110 :: c111 :: c112 :: c113 :: c114 :: c115 :: c116 :: c117 :: c118 :: c119 :: c120 :: c121 :: c122 :: c123 :: c124 :: c125 :: c126 :: c127 :: c128 :: c129 :: c130 :: c131 :: c132 :: c133 :: c134 :: c135 :: c136 :: c137 :: c138 :: c139 :: c140 :: c141 :: c142 :: c143 :: c144 :: c145 :: c146 :: c147 :: c148 :: c149 :: c150 :: c151 :: c152 :: c153 :: c154 :: c155 :: c156 :: c157 :: c158 :: c159 :: c160 :: c161 :: c162 :: c163 :: c164 :: c165 :: c166 :: c167 :: c168 :: c169 :: c170 :: c171 :: c172 :: c173 :: []).toArray, []⟩ w := by
 have a1 : ¬ 9223372036854775807 < (X.ba ah).size + (X.ba x.e.id).size := by rw [ba_size, ba_size]; omega
 obtain ⟨z0, z1, z2, z3, z4, z5, z6, z7, z8, z9, z10, zf0, zf1, zf2, zf3, zf4, zf5, zf6, zf7, zf8, zf9, zf10⟩ := rowN11 hK
 obtain ⟨v0, v1, v2⟩ := row3' hQ
 simp only [← ba_app] at hq
 have HQ := hid hq
 clear hQ hK hah h1 hq
 conv => arg 2; whnf
 refine wp_region_noPanic ?_
 go_region
 exact HQ.out _ _ _ _ _ _ _ _ _
theorem put_elemA {Qc : Exit → Act → World → Prop} {w : World} {Y B Q J : Nat} {m0 m1 m2 al : Value} {es : List O.El} {fs : List O.Fl} {ead fad : Option Addr} {ecp fcp : Nat} {inn ah : List UInt8} {nv : Value} {x : O.It} {a : Option Addr} {c1 c2 c3 c4 c6 c7 c8 c10 c11 c12 c13 c14 c15 c16 c17 c18 c19 c20 c21 c22 c23 c24 c25 c26 c27 c28 c29 c30 c31 c32 c33 c34 c35 c36 c37 c38 c39 c40 c41 c42 c43 c44 c45 c46 c47 c48 c49 c50 c51 c52 c53 c54 c55 c56 c57 c58 c59 c60 c61 c62 c63 c64 c65 c66 c67 c68 c69 c70 c71 c72 c73 c74 c75 c76 c77 c78 c79 c80 c81 c82 c83 c84 c85 c86 c87 c88 c89 c90 c91 c92 c93 c94 c95 c96 c97 c98 c99 c100 c101 c102 c103 c104 c105 c106 c107 c108 c109 c110 c111 c112 c113 c114 c115 c116 c117 c118 c119 c120 c121 c122 c123 c124 c125 c126 c127 c128 c129 c130 c131 c132 c133 c134 c135 c136 c137 c138 c139 c140 c141 c142 c143 c144 c145 c146 c147 c148 c149 c150 c151 c152 c153 c154 c155 c156 c157 c158 c159 c160 c161 c162 c163 c164 c165 c166 c167 c168 c169 c170 c171 c172 c173 : Value} (hm : PM Y B m0 m1 m2 al es fs (.slice ead es.length ecp) (.slice fad fs.length fcp) w) (hQ : w.heap[Q]? = some (.cells #[.string (X.ba inn), .string (X.ba ah), nv] 112 (0, 0))) (hJ : w.heap[J]? = some (.cells #[.int .i64 x.ln, .int .i64 x.cl, .pointer none, .string (X.ba x.e.id), .string (X.ba x.e.nm), .int .u8 x.e.kind, .string (X.ba x.e.inn), .string (X.ba x.e.dflt), .string (X.ba x.e.att), .int .u8 0, .string ⟨#[]⟩, .string ⟨#[]⟩, .int .i64 0, .int .i64 x.e.tries, .string (X.ba x.called), .slice a 0 0] 144 (0, 0))) (hah : ah.length ≤ 1000000000) (h1 : x.e.id.length ≤ 100000) (hd : x.e.dflt = []) (hk9 : x.e.kind ≠ 9) (hes : es.length ≤ 64)
   (hR : es.length = 64 → ∀ (g : Nat) (w' : World) (u73 u74 u75 u76 u77 u78 u79 u80 u81 u82 u83 : Value), w.heap.size ≤ g → w'.heap[g]? = some (faultRow 3 x.ln x.cl) → Below w.heap.size w w' → Qc .ret ⟨(.pointer (some ⟨Y, 0, none⟩) :: c1 :: c2 :: c3 :: c4 :: .pointer (some ⟨Q, 0, none⟩) :: .pointer (some ⟨g, 0, none⟩) :: c7 :: c8 :: .pointer (some ⟨J, 0, none⟩) :: c10 :: c11 :: c12 :: c13 :: c14 :: c15 :: c16 :: c17 :: c18 :: c19 :: c20 :: c21 :: c22 :: c23 :: c24 :: c25 :: c26 :: c27 :: c28 :: c29 :: c30 :: c31 :: c32 :: c33 :: c34 :: c35 :: c36 :: c37 :: c38 :: c39 :: c40 :: c41 :: c42 :: c43 :: c44 :: c45 :: c46 :: c47 :: c48 :: c49 :: c50 :: c51 :: c52 :: c53 :: c54 :: c55 :: c56 :: c57 :: c58 :: c59 :: c60 :: c61 :: c62 :: c63 :: c64 :: c65 :: c66 :: c67 :: c68 :: c69 :: c70 :: c71 :: c72 :: u73 :: u74 :: u75 :: u76 :: u77 :: u78 :: u79 :: u80 :: u81 :: u82 :: u83 :: c84 :: c85 :: c86 :: c87 :: c88 :: c89 :: c90 :: c91 :: c92 :: c93 :: c94 :: c95 :: c96 :: c97 :: c98 :: c99 :: c100 :: c101 :: c102 :: c103 :: c104 :: c105 :: c106 :: c107 :: c108 :: c109 :: c110 :: c111 :: c112 :: c113 :: c114 :: c115 :: c116 :: c117 :: c118 :: c119 :: c120 :: c121 :: c122 :: c123 :: c124 :: c125 :: c126 :: c127 :: c128 :: c129 :: c130 :: c131 :: c132 :: c133 :: c134 :: c135 :: c136 :: c137 :: c138 :: c139 :: c140 :: c141 :: c142 :: c143 :: c144 :: c145 :: c146 :: c147 :: c148 :: c149 :: c150 :: c151 :: c152 :: c153 :: c154 :: c155 :: c156 :: c157 :: c158 :: c159 :: c160 :: c161 :: c162 :: c163 :: c164 :: c165 :: c166 :: c167 :: c168 :: c169 :: c170 :: c171 :: c172 :: c173 :: []).toArray, []⟩ w')
   (hE : es.length < 64 → ∀ (K g cap : Nat) (w' : World) (u73 u74 u75 u76 u77 u78 u79 u84 u85 u86 u87 u88 u89 u90 u91 u92 u93 u94 u95 u96 u97 u104 u105 u106 u113 u114 u115 u116 u117 u118 u119 u120 u121 u122 u123 u124 : Value), w.heap.size ≤ K → w'.heap[K]? = some (.cells #[.string (X.ba (ah ++ x.e.id)), .string (X.ba x.e.nm), .int .u8 x.e.kind, .string (X.ba inn), .string (X.ba x.e.dflt), .string (X.ba x.e.att), .int .u8 0, .string ⟨#[]⟩, .string ⟨#[]⟩, .int .i64 0, .int .i64 x.e.tries] 36 (0, 0)) → PM Y B m0 m1 m2 al (es ++ [⟨ah ++ x.e.id, x.e.nm, x.e.kind, inn, x.e.dflt, x.e.att, x.e.tries⟩]) fs (.slice (some ⟨g, 0, none⟩) (es.length + 1) cap) (.slice fad fs.length fcp) w' → Fr w w' Y (.slice ead es.length ecp) (.slice fad fs.length fcp) (.slice (some ⟨g, 0, none⟩) (es.length + 1) cap) (.slice fad fs.length fcp) → Code.wp Tryz.prog (putAfter 19) Qc ⟨(.pointer (some ⟨Y, 0, none⟩) :: c1 :: c2 :: c3 :: c4 :: .pointer (some ⟨Q, 0, none⟩) :: c6 :: c7 :: c8 :: .pointer (some ⟨J, 0, none⟩) :: c10 :: .pointer (some ⟨K, 0, none⟩) :: c12 :: c13 :: c14 :: c15 :: c16 :: c17 :: c18 :: c19 :: c20 :: c21 :: c22 :: c23 :: c24 :: c25 :: c26 :: c27 :: c28 :: c29 :: c30 :: c31 :: c32 :: c33 :: c34 :: c35 :: c36 :: c37 :: c38 :: c39 :: c40 :: c41 :: c42 :: c43 :: c44 :: c45 :: c46 :: c47 :: c48 :: c49 :: c50 :: c51 :: c52 :: c53 :: c54 :: c55 :: c56 :: c57 :: c58 :: c59 :: c60 :: c61 :: c62 :: c63 :: c64 :: c65 :: c66 :: c67 :: c68 :: c69 :: c70 :: c71 :: c72 :: u73 :: u74 :: u75 :: u76 :: u77 :: u78 :: u79 :: c80 :: c81 :: c82 :: c83 :: u84 :: u85 :: u86 :: u87 :: u88 :: u89 :: u90 :: u91 :: u92 :: u93 :: u94 :: u95 :: u96 :: u97 :: c98 :: c99 :: c100 :: c101 :: c102 :: c103 :: u104 :: u105 :: u106 :: c107 :: c108 :: c109 :: c110 :: c111 :: c112 :: u113 :: u114 :: u115 :: u116 :: u117 :: u118 :: u119 :: u120 :: u121 :: u122 :: u123 :: u124 :: c125 :: c126 :: c127 :: c128 :: c129 :: c130 :: c131 :: c132 :: c133 :: c134 :: c135 :: c136 :: c137 :: c138 :: c139 :: c140 :: c141 :: c142 :: c143 :: c144 :: c145 :: c146 :: c147 :: c148 :: c149 :: c150 :: c151 :: c152 :: c153 :: c154 :: c155 :: c156 :: c157 :: c158 :: c159 :: c160 :: c161 :: c162 :: c163 :: c164 :: c165 :: c166 :: c167 :: c168 :: c169 :: c170 :: c171 :: c172 :: c173 :: []).toArray, []⟩ w') :
   Code.wp Tryz.prog (putBehind 5) Qc ⟨(.pointer (some ⟨Y, 0, none⟩) :: c1 :: c2 :: c3 :: c4 :: .pointer (some ⟨Q, 0, none⟩) :: c6 :: c7 :: c8 :: .pointer (some ⟨J, 0, none⟩) :: c10 :: c11 :: c12 :: c13 :: c14 :: c15 :: c16 :: c17 :: c18 :: c19 :: c20 :: c21 :: c22 :: c23 :: c24 :: c25 :: c26 :: c27 :: c28 :: c29 :: c30 :: c31 :: c32 :: c33 :: c34 :: c35 :: c36 :: c37 :: c38 :: c39 :: c40 :: c41 :: c42 :: c43 :: c44 :: c45 :: c46 :: c47 :: c48 :: c49 :: c50 :: c51 :: c52 :: c53 :: c54 :: c55 :: c56 :: c57 :: c58 :: c59 :: c60 :: c61 :: c62 :: c63 :: c64 :: c65 :: c66 :: c67 :: c68 :: c69 :: c70 :: c71 :: c72 :: c73 :: c74 :: c75 :: c76 :: c77 :: c78 :: c79 :: c80 :: c81 :: c82 :: c83 :: c84 :: c85 :: c86 :: c87 :: c88 :: c89 :: c90 :: c91 :: c92 :: c93 :: c94 :: c95 :: c96 :: c97 :: c98 :: c99 :: c100 :: c101 :: c102 :: c103 :: c104 :: c105 :: c106 :: c107 :: c108 :: c109 :: c110 :: c111 :: c112 :: c113 :: c114 :: c115 :: c116 :: c117 :: c118 :: c119 :: c120 :: c121 :: c122 :: c123 :: c124 :: c125 :: c126 :: c127 :: c128 :: c129 :: c130 :: c131 :: c132 :: c133 :: c134 :: c135 :: c136 :: c137 :: c138 :: c139 :: c140 :: c141 :: c142 :: c143 :: c144 :: c145 :: c146 :: c147 :: c148 :: c149 :: c150 :: c151 :: c152 :: c153 :: c154 :: c155 :: c156 :: c157 :: c158 :: c159 :: c160 :: c161 :: c162 :: c163 :: c164 :: c165 :: c166 :: c167 :: c168 :: c169 :: c170 :: c171 :: c172 :: c173 :: []).toArray, []⟩ w := by
 have HM := hid hm
 have HQ := hid hQ
 have HJ := hid hJ
 have HAH := hid hah
 have HID := hid h1
 have HRR := hid hR
 have HEE := hid hE
 have HD : Hid ((X.ba x.e.dflt).toList.isEmpty = true) := by show _ = _; rw [ba_toList, hd]; rfl
 have t9 : ((x.e.kind : Int) == 9) = false := beq_eq_false_iff_ne.2 (by omega)
 obtain ⟨y0, y1, y2, y3, y4, y5⟩ := rowN6 hm.x
 obtain ⟨d0, d1, d2, d3, d4, d5, d6, d7, d8, d9, d10, d11, d12, d13, d14, d15, -⟩ := rowN16 hJ
 clear hm hQ hJ hah h1 hR hE hd hk9
 conv => arg 2; whnf
 by_cases hfull : es.length = 64
 · have tf : ((es.length : Int) == 64) = true := beq_iff_eq.2 (by omega)
   have HF := hid hfull
   clear hfull
   go_wp2_with fail
   exact HRR.out HF.out w.heap.size _ _ _ _ _ _ _ _ _ _ _ _ (Nat.le_refl _) (heap_alloc_new w _) ((Below.refl _ w).alloc (Nat.le_refl _) _)
 have tf : ((es.length : Int) == 64) = false := beq_eq_false_iff_ne.2 (by omega)
 have HES : Hid (es.length < 64) := by show _ < _; omega
 clear hfull
 obtain ⟨K, hK⟩ : ∃ K, w.heap.size = K := ⟨_, rfl⟩
 obtain ⟨w4, hw4⟩ : ∃ v, w.alloc (.cells #[.string (X.ba x.e.id), .string (X.ba x.e.nm), .int .u8 x.e.kind, .string (X.ba x.e.inn), .string (X.ba x.e.dflt), .string (X.ba x.e.att), .int .u8 0, .string ⟨#[]⟩, .string ⟨#[]⟩, .int .i64 0, .int .i64 x.e.tries] 36) = v := ⟨_, rfl⟩
 have hb4 : Below w.heap.size w w4 := by rw [← hw4]; exact (Below.refl _ w).alloc (Nat.le_refl _) _
 have HK4 : Hid (w4.heap[K]? = some (.cells #[.string (X.ba x.e.id), .string (X.ba x.e.nm), .int .u8 x.e.kind, .string (X.ba x.e.inn), .string (X.ba x.e.dflt), .string (X.ba x.e.att), .int .u8 0, .string ⟨#[]⟩, .string ⟨#[]⟩, .int .i64 0, .int .i64 x.e.tries] 36 (0, 0))) := by show _ = _; rw [← hw4, ← hK]; exact heap_alloc_new w _
 have HM4 := hid (HM.out.below hb4)
 have HF4 := hid (Fr.below hb4 Y (.slice ead es.length ecp) (.slice fad fs.length fcp))
 have HQ4 : Hid (w4.heap[Q]? = some (.cells #[.string (X.ba inn), .string (X.ba ah), nv] 112 (0, 0))) := (hb4.block Q (Go.lt_of_block HQ.out)).trans HQ.out
 have HW4 := hid hw4
 have HKE := hid hK
 have hKQ : K ≠ Q := by have := Go.lt_of_block HQ.out; omega
 have HKQ := hid hKQ
 clear hb4 hw4 hK hKQ
 go_upto_region 14 with fail
 rw [HW4.out, HKE.out]
 clear HW4 y0 y1 y2 y3 y4 y5 d0 d1 d2 d3 d4 d5 d6 d7 d8 d9 d10 d11 d12 d13 d14 d15
 refine put_r14 HQ4.out HK4.out HAH.out HID.out HKQ.out ?_
 intro u86 u87 u88 u89 u90 u91 u92 u93 u94
 obtain ⟨w5, hw5⟩ : ∃ v, (((w4).setCell ⟨K, 0, none⟩ (.string (X.ba (ah ++ x.e.id)))).setCell ⟨K, 3, none⟩ (.string (X.ba inn))).drew = v := ⟨_, rfl⟩
 have HW5 := hid hw5
 have hg5 : w4.grownBy w5 (some K) := by rw [← hw5]; exact grow_drew ((grownBy_set w4 K 0 _).trans (grownBy_set _ K 3 _))
 have HK5 : Hid (w5.heap[K]? = some (.cells #[.string (X.ba (ah ++ x.e.id)), .string (X.ba x.e.nm), .int .u8 x.e.kind, .string (X.ba inn), .string (X.ba x.e.dflt), .string (X.ba x.e.att), .int .u8 0, .string ⟨#[]⟩, .string ⟨#[]⟩, .int .i64 0, .int .i64 x.e.tries] 36 (0, 0))) := by
   show _ = _
   rw [← hw5]
   exact row_set (row_set HK4.out 0 _) 3 _
 have HM5 := hid (HM4.out.past HM.out (Nat.le_of_eq HKE.out) hg5)
 have HF5 := hid (HF4.out.past (Nat.le_of_eq HKE.out) hg5)
 clear hw5 hg5
 have hd := HD.out
 obtain ⟨z0, z1, z2, z3, z4, z5, z6, z7, z8, z9, z10, -⟩ := rowN11 HK5.out
 go_upto_region 15 with fail
 rw [HW5.out]
 clear HW5
 go_upto_region 19 with fail
 clear hd z0 z1 z2 z3 z4 z5 z6 z7 z8 z9 z10
 refine put_r19 (x := ⟨ah ++ x.e.id, x.e.nm, x.e.kind, inn, x.e.dflt, x.e.att, x.e.tries⟩) (F := K) HM5.out HK5.out (by have := HES.out; omega) ?_
 intro g1 cap1 w6 u113 u114 u115 u116 u117 u118 u119 u120 u121 u122 u123 u124 hp6 hf6
 have HP6 := hid hp6
 have HF6 := hid (HF5.out.trans hf6)
 have HK6 : Hid (w6.heap[K]? = some (.cells #[.string (X.ba (ah ++ x.e.id)), .string (X.ba x.e.nm), .int .u8 x.e.kind, .string (X.ba inn), .string (X.ba x.e.dflt), .string (X.ba x.e.att), .int .u8 0, .string ⟨#[]⟩, .string ⟨#[]⟩, .int .i64 0, .int .i64 x.e.tries] 36 (0, 0))) := by
   show _ = _
   rw [hf6.block K (Go.lt_of_block HK5.out) (fun e => by have h1 := Go.lt_of_block HM.out.x; have h2 := HKE.out; omega) (fun e => by have h1 := (World.ownsRow.lt HM.out.eo K e.symm).2; have h2 := HKE.out; omega) (fun e => by have h1 := (World.ownsRow.lt HM.out.fo K e.symm).2; have h2 := HKE.out; omega)]
   exact HK5.out
 clear hp6 hf6
 rename Act → World → Prop => KK
 rename ∀ (a : Act) (w : World), _ → KK a w => hKK
 exact hKK _ _ (HEE.out HES.out K g1 cap1 w6 _ _ _ _ _ _ _ _ _ _ _ _ _ _ _ _ _ _ _ _ _ _ _ _ _ _ _ _ _ _ _ _ _ _ _ _ (Nat.le_of_eq HKE.out) HK6.out HP6.out HF6.out)
end Go.Proofs.YteejphiklpnjhaaGreatDoor
