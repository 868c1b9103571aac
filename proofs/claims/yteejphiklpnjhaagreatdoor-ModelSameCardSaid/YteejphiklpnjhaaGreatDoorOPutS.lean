/- put: a flow. -/
import Derived.Test.YteejphiklpnjhaaGreatDoorOPutR
import Derived.BigRegion
namespace Go.Proofs.YteejphiklpnjhaaGreatDoor
set_option maxRecDepth 100000
set_option maxHeartbeats 16000000
open Go.RowKit Go.Maps
open Go.Lib (hid)
def headR : Code → Option Nat
 | .region k _ _ => some k
 | .seq a _ => headR a
 | .cond _ a _ => headR a
 | .block _ c => headR c
 | .loop c => headR c
 | .scope c => headR c
 | _ => none
def thenR (n : Nat) : Code → Option Code
 | .cond _ a b => if headR a = some n then some a else match thenR n a with
   | some c => some c
   | none => thenR n b
 | .seq a b => match thenR n a with
   | some c => some c
   | none => thenR n b
 | .block _ c => thenR n c
 | .loop c => thenR n c
 | .scope c => thenR n c
 | _ => none
def afterS (n : Nat) : Code → Option Code
 | .seq a b => if headR a = some n then some b else match afterS n a with
   | some c => some c
   | none => afterS n b
 | .cond _ a b => match afterS n a with
   | some c => some c
   | none => afterS n b
 | .block _ c => afterS n c
 | .loop c => afterS n c
 | .scope c => afterS n c
 | _ => none
noncomputable def putThen (n : Nat) : Code := (Tryz.f44.body.bind (thenR n)).getD .skip
noncomputable def putBehind (n : Nat) : Code := (Tryz.f44.body.bind (afterS n)).getD .skip
theorem PM.step {w w' : World} {Y B K : Nat} {m0 m1 m2 al : Value} {es : List O.El} {fs : List O.Fl} {ev fv : Value} (h : PM Y B m0 m1 m2 al es fs ev fv w) (he : ∀ k, ev.ownBlock = some k → k ≠ K) (hf : ∀ k, fv.ownBlock = some k → k ≠ K) (hY : Y ≠ K) (g : w.grownBy w' (some K)) : PM Y B m0 m1 m2 al es fs ev fv w' :=
 ⟨h.hx, Nat.le_trans h.hB g.size, (g.block Y (Go.lt_of_block h.x) (fun e => hY (Option.some.inj e))).trans h.x,
  h.eo.kept g (by rcases ho : ev.ownBlock with _ | k; exact Or.inl rfl; exact Or.inr (fun e => he k ho (Option.some.inj e))),
  h.fo.kept g (by rcases ho : fv.ownBlock with _ | k; exact Or.inl rfl; exact Or.inr (fun e => hf k ho (Option.some.inj e)))⟩
theorem PM.past {w w' w2 : World} {Y B K : Nat} {m0 m1 m2 al : Value} {es es2 : List O.El} {fs fs2 : List O.Fl} {ev fv : Value} (h : PM Y B m0 m1 m2 al es fs ev fv w) (h2 : PM Y B m0 m1 m2 al es2 fs2 ev fv w2) (hK : w2.heap.size ≤ K) (g : w.grownBy w' (some K)) : PM Y B m0 m1 m2 al es fs ev fv w' :=
 h.step (fun k hk => by have := (World.ownsRow.lt h2.eo k hk).2; omega) (fun k hk => by have := (World.ownsRow.lt h2.fo k hk).2; omega) (by have := Go.lt_of_block h2.x; omega) g
theorem Fr.past {w0 w w' : World} {Y K : Nat} {ev fv ev' fv' : Value} (h : Fr w0 w Y ev fv ev' fv') (hK : w0.heap.size ≤ K) (g : w.grownBy w' (some K)) : Fr w0 w' Y ev fv ev' fv' :=
 ⟨g.os.trans h.os, g.tape.trans h.tape, g.output.trans h.output, Nat.le_trans h.size g.size, fun b hb h1 h2 h3 => (g.block b (Nat.lt_of_lt_of_le hb h.size) (fun e => by have := Option.some.inj e; omega)).trans (h.block b hb h1 h2 h3), h.e, h.f⟩
theorem grow_drew {w w' : World} {b : Option Nat} (g : w.grownBy w' b) : w.grownBy w'.drew b := ⟨g.os, g.tape, g.output, g.size, g.block⟩
theorem put_r9 {Qc : Exit → Act → World → Prop} {w : World} {Q K : Nat} {inn ah : List UInt8} {nv : Value} {fl : O.Fl} {c0 c1 c2 c3 c4 c6 c7 c8 c9 c11 c12 c13 c14 c15 c16 c17 c18 c19 c20 c21 c22 c23 c24 c25 c26 c27 c28 c29 c30 c31 c32 c33 c34 c35 c36 c37 c38 c39 c40 c41 c42 c43 c44 c45 c46 c47 c48 c49 c50 c51 c52 c53 c54 c55 c56 c57 c58 c59 c60 c61 c62 c63 c64 c65 c66 c67 c68 c69 c70 c71 c72 c73 c74 c75 c76 c77 c78 c79 c80 c81 c82 c83 c84 c85 c86 c87 c88 c89 c90 c91 c92 c93 c94 c95 c96 c97 c98 c99 c100 c101 c102 c103 c104 c105 c106 c107 c108 c109 c110 c111 c112 c113 c114 c115 c116 c117 c118 c119 c120 c121 c122 c123 c124 c125 c126 c127 c128 c129 c130 c131 c132 c133 c134 c135 c136 c137 c138 c139 c140 c141 c142 c143 c144 c145 c146 c147 c148 c149 c150 c151 c152 c153 c154 c155 c156 c157 c158 c159 c160 c161 c162 c163 c164 c165 c166 c167 c168 c169 c170 c171 c172 c173 : Value} (hQ : w.heap[Q]? = some (.cells #[.string (X.ba inn), .string (X.ba ah), nv] 112 (0, 0))) (hK : w.heap[K]? = some (.cells #[.string (X.ba fl.id), .string (X.ba fl.fr), .string (X.ba fl.dst), .string ⟨#[]⟩] 53 (0, 0))) (hah : ah.length ≤ 1000000000) (h1 : fl.id.length ≤ 100000) (h2 : fl.fr.length ≤ 100000) (h3 : fl.dst.length ≤ 100000) (hKQ : K ≠ Q)
  (hq : ∀ (u43 u44 u45 u46 u47 u48 u49 u50 u51 u52 u53 u54 u55 u56 u57 u58 u59 u60 : Value), Qc .normal ⟨(c0 :: c1 :: c2 :: c3 :: c4 :: .pointer (some ⟨Q, 0, none⟩) :: c6 :: c7 :: c8 :: c9 :: .pointer (some ⟨K, 0, none⟩) :: c11 :: c12 :: c13 :: c14 :: c15 :: c16 :: c17 :: c18 :: c19 :: c20 :: c21 :: c22 :: c23 :: c24 :: c25 :: c26 :: c27 :: c28 :: c29 :: c30 :: c31 :: c32 :: c33 :: c34 :: c35 :: c36 :: c37 :: c38 :: c39 :: c40 :: c41 :: c42 :: u43 :: u44 :: u45 :: u46 :: u47 :: u48 :: u49 :: u50 :: u51 :: u52 :: u53 :: u54 :: u55 :: u56 :: u57 :: u58 :: u59 :: u60 :: c61 :: c62 :: c63 :: c64 :: c65 :: c66 :: c67 :: c68 :: c69 :: c70 :: c71 :: c72 :: c73 :: c74 :: c75 :: c76 :: c77 :: c78 :: c79 :: c80 :: c81 :: c82 :: c83 :: c84 :: c85 :: c86 :: c87 :: c88 :: c89 :: c90 :: c91 :: c92 :: c93 :: c94 :: c95 :: c96 :: c97 :: c98 :: c99 :: c100 :: c101 :: c102 :: c103 :: c104 :: c105 :: c106 :: c107 :: c108 :: c109 :: c110 :: c111 :: c112 :: c113 :: c114 :: c115 :: c116 :: c117 :: c118 :: c119 :: c120 :: c121 :: c122 :: c123 :: c124 :: c125 :: c126 :: c127 :: c128 :: c129 :: c130 :: c131 :: c132 :: c133 :: c134 :: c135 :: c136 :: c137 :: c138 :: c139 :: c140 :: c141 :: c142 :: c143 :: c144 :: c145 :: c146 :: c147 :: c148 :: c149 :: c150 :: c151 :: c152 :: c153 :: c154 :: c155 :: c156 :: c157 :: c158 :: c159 :: c160 :: c161 :: c162 :: c163 :: c164 :: c165 :: c166 :: c167 :: c168 :: c169 :: c170 :: c171 :: c172 :: c173 :: []).toArray, []⟩ (((((w).setCell ⟨K, 0, none⟩ (.string (X.ba (ah ++ fl.id)))).setCell ⟨K, 1, none⟩ (.string (X.ba (ah ++ fl.fr)))).setCell ⟨K, 2, none⟩ (.string (X.ba (ah ++ fl.dst)))).drew)) :
  Code.wp Tryz.prog (putReg 9) Qc ⟨(c0 :: c1 :: c2 :: c3 :: c4 :: .pointer (some ⟨Q, 0, none⟩) :: c6 :: c7 :: c8 :: c9 :: .pointer (some ⟨K, 0, none⟩) :: c11 :: c12 :: c13 :: c14 :: c15 :: c16 :: c17 :: c18 :: c19 :: c20 :: c21 :: c22 :: c23 :: c24 :: c25 :: c26 :: c27 :: c28 :: c29 :: c30 :: c31 :: c32 :: c33 :: c34 :: c35 :: c36 :: c37 :: c38 :: c39 :: c40 :: c41 :: c42 :: c43 :: c44 :: c45 :: c46 :: c47 :: c48 :: c49 :: c50 :: c51 :: c52 :: c53 :: c54 :: c55 :: c56 :: c57 :: c58 :: c59 :: c60 :: c61 :: c62 :: c63 :: c64 :: c65 :: c66 :: c67 :: c68 :: c69 :: c70 :: c71 :: c72 :: c73 :: c74 :: c75 :: c76 :: c77 :: c78 :: c79 :: c80 :: c81 :: c82 :: c83 :: c84 :: c85 :: c86 :: c87 :: c88 :: c89 :: c90 :: c91 :: c92 :: c93 :: c94 :: c95 :: c96 :: c97 :: c98 :: c99 :: c100 :: c101 :: c102 :: c103 :: c104 :: c105 :: c106 :: c107 :: c108 :: c109 :: c110 :: c111 :: c112 :: c113 :: c114 :: c115 :: c116 :: c117 :: c118 :: c119 :: c120 :: c121 :: c122 :: c123 :: c124 :: c125 :: c126 :: c127 :: c128 :: c129 :: c130 :: c131 :: c132 :: c133 :: c134 :: c135 :: c136 :: c137 :: c138 :: c139 :: c140 :: c141 :: c142 :: c143 :: c144 :: c145 :: c146 :: c147 :: c148 :: c149 :: c150 :: c151 :: c152 :: c153 :: c154 :: c155 :: c156 :: c157 :: c158 :: c159 :: c160 :: c161 :: c162 :: c163 :: c164 :: c165 :: c166 :: c167 :: c168 :: c169 :: c170 :: c171 :: c172 :: c173 :: []).toArray, []⟩ w := by
 have a1 : ¬ 9223372036854775807 < (X.ba ah).size + (X.ba fl.id).size := by rw [ba_size, ba_size]; omega
 have a2 : ¬ 9223372036854775807 < (X.ba ah).size + (X.ba fl.fr).size := by rw [ba_size, ba_size]; omega
 have a3 : ¬ 9223372036854775807 < (X.ba ah).size + (X.ba fl.dst).size := by rw [ba_size, ba_size]; omega
 obtain ⟨z0, z1, z2, z3⟩ := row4 hK
 obtain ⟨zf0, zf1, zf2, zf3⟩ := free4 hK
 obtain ⟨v0, v1, v2⟩ := row3' hQ
 simp only [← ba_app] at hq
 have HQ := hid hq
 clear hQ hK hah h1 h2 h3 hq
 conv => arg 2; whnf
 refine wp_region_noPanic ?_
 go_region
 exact HQ.out _ _ _ _ _ _ _ _ _ _ _ _ _ _ _ _ _ _
theorem put_flow {Qc : Exit → Act → World → Prop} {w : World} {Y B Q J G : Nat} {m0 m1 m2 al : Value} {es : List O.El} {fs : List O.Fl} {ead fad : Option Addr} {ecp fcp : Nat} {inn ah : List UInt8} {nv : Value} {x : O.It} {fl : O.Fl} {a : Option Addr} {c1 c2 c3 c4 c6 c7 c8 c10 c11 c12 c13 c14 c15 c16 c17 c18 c19 c20 c21 c22 c23 c24 c25 c26 c27 c28 c29 c30 c31 c32 c33 c34 c35 c36 c37 c38 c39 c40 c41 c42 c43 c44 c45 c46 c47 c48 c49 c50 c51 c52 c53 c54 c55 c56 c57 c58 c59 c60 c61 c62 c63 c64 c65 c66 c67 c68 c69 c70 c71 c72 c73 c74 c75 c76 c77 c78 c79 c80 c81 c82 c83 c84 c85 c86 c87 c88 c89 c90 c91 c92 c93 c94 c95 c96 c97 c98 c99 c100 c101 c102 c103 c104 c105 c106 c107 c108 c109 c110 c111 c112 c113 c114 c115 c116 c117 c118 c119 c120 c121 c122 c123 c124 c125 c126 c127 c128 c129 c130 c131 c132 c133 c134 c135 c136 c137 c138 c139 c140 c141 c142 c143 c144 c145 c146 c147 c148 c149 c150 c151 c152 c153 c154 c155 c156 c157 c158 c159 c160 c161 c162 c163 c164 c165 c166 c167 c168 c169 c170 c171 c172 c173 : Value} (hm : PM Y B m0 m1 m2 al es fs (.slice ead es.length ecp) (.slice fad fs.length fcp) w) (hQ : w.heap[Q]? = some (.cells #[.string (X.ba inn), .string (X.ba ah), nv] 112 (0, 0))) (hJ : w.heap[J]? = some (.cells #[.int .i64 x.ln, .int .i64 x.cl, .pointer (some ⟨G, 0, none⟩), .string (X.ba x.e.id), .string (X.ba x.e.nm), .int .u8 x.e.kind, .string (X.ba x.e.inn), .string (X.ba x.e.dflt), .string (X.ba x.e.att), .int .u8 0, .string ⟨#[]⟩, .string ⟨#[]⟩, .int .i64 0, .int .i64 x.e.tries, .string (X.ba x.called), .slice a 0 0] 144 (0, 0))) (hG : w.heap[G]? = some (.cells #[.string (X.ba fl.id), .string (X.ba fl.fr), .string (X.ba fl.dst), .string ⟨#[]⟩] 53 (0, 0))) (hah : ah.length ≤ 1000000000) (h1 : fl.id.length ≤ 100000 ∧ fl.fr.length ≤ 100000 ∧ fl.dst.length ≤ 100000) (hfs : fs.length ≤ 128)
   (hR : fs.length = 128 → ∀ (g : Nat) (w' : World) (u28 u29 u30 u31 u32 u33 u34 u35 u36 u37 u38 : Value), w.heap.size ≤ g → w'.heap[g]? = some (faultRow 3 x.ln x.cl) → Below w.heap.size w w' → Qc .ret ⟨(.pointer (some ⟨Y, 0, none⟩) :: c1 :: c2 :: c3 :: c4 :: .pointer (some ⟨Q, 0, none⟩) :: .pointer (some ⟨g, 0, none⟩) :: c7 :: c8 :: .pointer (some ⟨J, 0, none⟩) :: c10 :: c11 :: c12 :: c13 :: c14 :: c15 :: c16 :: c17 :: c18 :: c19 :: c20 :: c21 :: c22 :: c23 :: c24 :: c25 :: c26 :: c27 :: u28 :: u29 :: u30 :: u31 :: u32 :: u33 :: u34 :: u35 :: u36 :: u37 :: u38 :: c39 :: c40 :: c41 :: c42 :: c43 :: c44 :: c45 :: c46 :: c47 :: c48 :: c49 :: c50 :: c51 :: c52 :: c53 :: c54 :: c55 :: c56 :: c57 :: c58 :: c59 :: c60 :: c61 :: c62 :: c63 :: c64 :: c65 :: c66 :: c67 :: c68 :: c69 :: c70 :: c71 :: c72 :: c73 :: c74 :: c75 :: c76 :: c77 :: c78 :: c79 :: c80 :: c81 :: c82 :: c83 :: c84 :: c85 :: c86 :: c87 :: c88 :: c89 :: c90 :: c91 :: c92 :: c93 :: c94 :: c95 :: c96 :: c97 :: c98 :: c99 :: c100 :: c101 :: c102 :: c103 :: c104 :: c105 :: c106 :: c107 :: c108 :: c109 :: c110 :: c111 :: c112 :: c113 :: c114 :: c115 :: c116 :: c117 :: c118 :: c119 :: c120 :: c121 :: c122 :: c123 :: c124 :: c125 :: c126 :: c127 :: c128 :: c129 :: c130 :: c131 :: c132 :: c133 :: c134 :: c135 :: c136 :: c137 :: c138 :: c139 :: c140 :: c141 :: c142 :: c143 :: c144 :: c145 :: c146 :: c147 :: c148 :: c149 :: c150 :: c151 :: c152 :: c153 :: c154 :: c155 :: c156 :: c157 :: c158 :: c159 :: c160 :: c161 :: c162 :: c163 :: c164 :: c165 :: c166 :: c167 :: c168 :: c169 :: c170 :: c171 :: c172 :: c173 :: []).toArray, []⟩ w')
   (hE : fs.length < 128 → ∀ (g cap : Nat) (w' : World) (u10 u28 u29 u30 u31 u32 u33 u34 u39 u40 u41 u42 u43 u44 u45 u46 u47 u48 u49 u50 u51 u52 u53 u54 u55 u56 u57 u58 u59 u60 u61 u62 u63 u64 u65 u66 u67 u68 u69 u70 u71 u72 : Value), PM Y B m0 m1 m2 al es (fs ++ [⟨ah ++ fl.id, ah ++ fl.fr, ah ++ fl.dst⟩]) (.slice ead es.length ecp) (.slice (some ⟨g, 0, none⟩) (fs.length + 1) cap) w' → Fr w w' Y (.slice ead es.length ecp) (.slice fad fs.length fcp) (.slice ead es.length ecp) (.slice (some ⟨g, 0, none⟩) (fs.length + 1) cap) → Qc (.exit 1) ⟨(.pointer (some ⟨Y, 0, none⟩) :: c1 :: c2 :: c3 :: c4 :: .pointer (some ⟨Q, 0, none⟩) :: c6 :: c7 :: c8 :: .pointer (some ⟨J, 0, none⟩) :: u10 :: c11 :: c12 :: c13 :: c14 :: c15 :: c16 :: c17 :: c18 :: c19 :: c20 :: c21 :: c22 :: c23 :: c24 :: c25 :: c26 :: c27 :: u28 :: u29 :: u30 :: u31 :: u32 :: u33 :: u34 :: c35 :: c36 :: c37 :: c38 :: u39 :: u40 :: u41 :: u42 :: u43 :: u44 :: u45 :: u46 :: u47 :: u48 :: u49 :: u50 :: u51 :: u52 :: u53 :: u54 :: u55 :: u56 :: u57 :: u58 :: u59 :: u60 :: u61 :: u62 :: u63 :: u64 :: u65 :: u66 :: u67 :: u68 :: u69 :: u70 :: u71 :: u72 :: c73 :: c74 :: c75 :: c76 :: c77 :: c78 :: c79 :: c80 :: c81 :: c82 :: c83 :: c84 :: c85 :: c86 :: c87 :: c88 :: c89 :: c90 :: c91 :: c92 :: c93 :: c94 :: c95 :: c96 :: c97 :: c98 :: c99 :: c100 :: c101 :: c102 :: c103 :: c104 :: c105 :: c106 :: c107 :: c108 :: c109 :: c110 :: c111 :: c112 :: c113 :: c114 :: c115 :: c116 :: c117 :: c118 :: c119 :: c120 :: c121 :: c122 :: c123 :: c124 :: c125 :: c126 :: c127 :: c128 :: c129 :: c130 :: c131 :: c132 :: c133 :: c134 :: c135 :: c136 :: c137 :: c138 :: c139 :: c140 :: c141 :: c142 :: c143 :: c144 :: c145 :: c146 :: c147 :: c148 :: c149 :: c150 :: c151 :: c152 :: c153 :: c154 :: c155 :: c156 :: c157 :: c158 :: c159 :: c160 :: c161 :: c162 :: c163 :: c164 :: c165 :: c166 :: c167 :: c168 :: c169 :: c170 :: c171 :: c172 :: c173 :: []).toArray, []⟩ w') :
   Code.wp Tryz.prog (putThen 6) Qc ⟨(.pointer (some ⟨Y, 0, none⟩) :: c1 :: c2 :: c3 :: c4 :: .pointer (some ⟨Q, 0, none⟩) :: c6 :: c7 :: c8 :: .pointer (some ⟨J, 0, none⟩) :: c10 :: c11 :: c12 :: c13 :: c14 :: c15 :: c16 :: c17 :: c18 :: c19 :: c20 :: c21 :: c22 :: c23 :: c24 :: c25 :: c26 :: c27 :: c28 :: c29 :: c30 :: c31 :: c32 :: c33 :: c34 :: c35 :: c36 :: c37 :: c38 :: c39 :: c40 :: c41 :: c42 :: c43 :: c44 :: c45 :: c46 :: c47 :: c48 :: c49 :: c50 :: c51 :: c52 :: c53 :: c54 :: c55 :: c56 :: c57 :: c58 :: c59 :: c60 :: c61 :: c62 :: c63 :: c64 :: c65 :: c66 :: c67 :: c68 :: c69 :: c70 :: c71 :: c72 :: c73 :: c74 :: c75 :: c76 :: c77 :: c78 :: c79 :: c80 :: c81 :: c82 :: c83 :: c84 :: c85 :: c86 :: c87 :: c88 :: c89 :: c90 :: c91 :: c92 :: c93 :: c94 :: c95 :: c96 :: c97 :: c98 :: c99 :: c100 :: c101 :: c102 :: c103 :: c104 :: c105 :: c106 :: c107 :: c108 :: c109 :: c110 :: c111 :: c112 :: c113 :: c114 :: c115 :: c116 :: c117 :: c118 :: c119 :: c120 :: c121 :: c122 :: c123 :: c124 :: c125 :: c126 :: c127 :: c128 :: c129 :: c130 :: c131 :: c132 :: c133 :: c134 :: c135 :: c136 :: c137 :: c138 :: c139 :: c140 :: c141 :: c142 :: c143 :: c144 :: c145 :: c146 :: c147 :: c148 :: c149 :: c150 :: c151 :: c152 :: c153 :: c154 :: c155 :: c156 :: c157 :: c158 :: c159 :: c160 :: c161 :: c162 :: c163 :: c164 :: c165 :: c166 :: c167 :: c168 :: c169 :: c170 :: c171 :: c172 :: c173 :: []).toArray, []⟩ w := by
 have HM := hid hm
 have HQ := hid hQ
 have HJ := hid hJ
 have HG := hid hG
 have HAH := hid hah
 have HFL := hid h1
 have HRR := hid hR
 have HEE := hid hE
 obtain ⟨y0, y1, y2, y3, y4, y5⟩ := rowN6 hm.x
 obtain ⟨d0, d1, d2, d3, d4, d5, d6, d7, d8, d9, d10, d11, d12, d13, d14, d15, -⟩ := rowN16 hJ
 clear hm hQ hJ hG hah h1 hR hE
 conv => arg 2; whnf
 by_cases hfull : fs.length = 128
 · have tf : ((fs.length : Int) == 128) = true := beq_iff_eq.2 (by omega)
   have HF := hid hfull
   clear hfull
   go_wp2_with fail
   exact HRR.out HF.out w.heap.size _ _ _ _ _ _ _ _ _ _ _ _ (Nat.le_refl _) (heap_alloc_new w _) ((Below.refl _ w).alloc (Nat.le_refl _) _)
 have tf : ((fs.length : Int) == 128) = false := beq_eq_false_iff_ne.2 (by omega)
 have HFS : Hid (fs.length < 128) := by show _ < _; omega
 clear hfull
 obtain ⟨z0, z1, z2, z3⟩ := row4 HG.out
 obtain ⟨K, hK⟩ : ∃ K, w.heap.size = K := ⟨_, rfl⟩
 obtain ⟨w4, hw4⟩ : ∃ v, w.alloc (.cells #[.string (X.ba fl.id), .string (X.ba fl.fr), .string (X.ba fl.dst), .string ⟨#[]⟩] 53) = v := ⟨_, rfl⟩
 have hb4 : Below w.heap.size w w4 := by rw [← hw4]; exact (Below.refl _ w).alloc (Nat.le_refl _) _
 have HK4 : Hid (w4.heap[K]? = some (.cells #[.string (X.ba fl.id), .string (X.ba fl.fr), .string (X.ba fl.dst), .string ⟨#[]⟩] 53 (0, 0))) := by show _ = _; rw [← hw4, ← hK]; exact heap_alloc_new w _
 have HM4 := hid (HM.out.below hb4)
 have HF4 := hid (Fr.below hb4 Y (.slice ead es.length ecp) (.slice fad fs.length fcp))
 have HQ4 : Hid (w4.heap[Q]? = some (.cells #[.string (X.ba inn), .string (X.ba ah), nv] 112 (0, 0))) := (hb4.block Q (Go.lt_of_block HQ.out)).trans HQ.out
 have HW4 := hid hw4
 have HKE := hid hK
 have hKQ : K ≠ Q := by have := Go.lt_of_block HQ.out; omega
 have HKQ := hid hKQ
 clear hb4 hw4 hK hKQ
 go_upto_region 9 with fail
 rw [HW4.out, HKE.out]
 clear HW4 z0 z1 z2 z3 y0 y1 y2 y3 y4 y5 d0 d1 d2 d3 d4 d5 d6 d7 d8 d9 d10 d11 d12 d13 d14 d15
 refine put_r9 HQ4.out HK4.out HAH.out HFL.out.1 HFL.out.2.1 HFL.out.2.2 HKQ.out ?_
 intro u43 u44 u45 u46 u47 u48 u49 u50 u51 u52 u53 u54 u55 u56 u57 u58 u59 u60
 obtain ⟨w5, hw5⟩ : ∃ v, ((((w4).setCell ⟨K, 0, none⟩ (.string (X.ba (ah ++ fl.id)))).setCell ⟨K, 1, none⟩ (.string (X.ba (ah ++ fl.fr)))).setCell ⟨K, 2, none⟩ (.string (X.ba (ah ++ fl.dst)))).drew = v := ⟨_, rfl⟩
 have HW5 := hid hw5
 have hg5 : w4.grownBy w5 (some K) := by rw [← hw5]; exact grow_drew (sts_grown [.string (X.ba (ah ++ fl.id)), .string (X.ba (ah ++ fl.fr)), .string (X.ba (ah ++ fl.dst))] w4 K 0)
 have HK5 : Hid (w5.heap[K]? = some (.cells #[.string (X.ba (ah ++ fl.id)), .string (X.ba (ah ++ fl.fr)), .string (X.ba (ah ++ fl.dst)), .string ⟨#[]⟩] 53 (0, 0))) := by
   show _ = _
   rw [← hw5]
   exact sts_mid [.string (X.ba (ah ++ fl.id)), .string (X.ba (ah ++ fl.fr)), .string (X.ba (ah ++ fl.dst))] [] [.string (X.ba fl.id), .string (X.ba fl.fr), .string (X.ba fl.dst)] [.string ⟨#[]⟩] w4 HK4.out rfl
 have HM5 := hid (HM4.out.past HM.out (Nat.le_of_eq HKE.out) hg5)
 have HF5 := hid (HF4.out.past (Nat.le_of_eq HKE.out) hg5)
 clear hw5 hg5
 go_upto_region 10 with fail
 rw [HW5.out]
 clear HW5
 refine put_r10 (x := ⟨ah ++ fl.id, ah ++ fl.fr, ah ++ fl.dst⟩) (F := K) HM5.out HK5.out (by have := HFS.out; omega) ?_
 intro g1 cap1 w6 u61 u62 u63 u64 u65 u66 u67 u68 u69 u70 u71 u72 hp6 hf6
 have HP6 := hid hp6
 have HF6 := hid (HF5.out.trans hf6)
 clear hp6 hf6
 go_wp2_with fail
 exact HEE.out HFS.out _ _ _ _ _ _ _ _ _ _ _ _ _ _ _ _ _ _ _ _ _ _ _ _ _ _ _ _ _ _ _ _ _ _ _ _ _ _ _ _ _ _ _ _ _ HP6.out HF6.out
end Go.Proofs.YteejphiklpnjhaaGreatDoor
