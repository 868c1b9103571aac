/- put: what is in an element, or in the process that it calls. -/
import Derived.Test.YteejphiklpnjhaaGreatDoorOPutE
namespace Go.Proofs.YteejphiklpnjhaaGreatDoor
set_option maxRecDepth 100000
set_option maxHeartbeats 16000000
open Go.RowKit Go.Maps
open Go.Lib (hid)
theorem put_nil {w : World} (Y : Value) (a : Option Addr) (c : Nat) (i0 i1 i2 : Value) :
  Calls Tryz.prog 44 #[Y, .slice a 0 c, .agg #[i0, i1, i2]] w fun en W' => en = .returned (.pointer none) ∧ Below w.heap.size w W' := by
 obtain ⟨w1, hw1⟩ : ∃ w1, w.alloc (.cells #[i0, i1, i2] 112) = w1 := ⟨_, rfl⟩
 have HB : Hid (Below w.heap.size w w1) := by show Below _ _ _; rw [← hw1]; exact (Below.refl _ w).alloc (Nat.le_refl _) _
 have HW1 := hid hw1
 clear hw1
 go_enter Tryz.func44, Tryz.ntmps44
 go_upto_region 1 with fail
 rw [HW1.out]
 clear HW1
 go_wp2_with fail
 go_loopw [21] (fun vi wr => vi = .int .i64 0 ∧ Hid (wr = w1)) (fun _ _ => 0)
 case atStart => exact ⟨rfl, hid rfl⟩
 case round =>
  obtain ⟨rfl, hwr⟩ := hrel
  obtain rfl := hwr.out.symm
  go_wp2_with fail
  go_ret
  exact ⟨rfl, HB.out⟩
structure PutIn (P : Nat → Prop) (all : List O.Pr) (Y B : Nat) (m0 m1 m2 al : Value) (es : List O.El) (fs : List O.Fl) (ev fv : Value) (ns : List (List UInt8)) (nv : Value) (w : World) : Prop where
 pm : PM Y B m0 m1 m2 al es fs ev fv w
 al : PrsIn w P all al
 p : ∀ b, P b → b < B ∧ b ≠ Y
 n : SIn w ns nv
 e : es.length ≤ 64
 f : fs.length ≤ 128
def PutC (P : Nat → Prop) (all : List O.Pr) (k : Nat) : Prop :=
 ∀ (l : List O.It) (inn ah : List UInt8) (ns : List (List UInt8)) (es : List O.El) (fs : List O.Fl) (r : Except O.Er (List O.El × List O.Fl)) (lv nv : Value) (w : World) (Y B : Nat) (m0 m1 m2 al ev fv : Value),
  O.put all k l inn ah ns es fs = some r → PutIn P all Y B m0 m1 m2 al es fs ev fv ns nv w → ItsIn w P l lv → l.all O.fitI = true → l.length ≤ 2000 → ah.length + k * 200000 ≤ 1000000000 → ns.length + k ≤ 1000 →
  Calls Tryz.prog 44 #[.pointer (some ⟨Y, 0, none⟩), lv, .agg #[.string (X.ba inn), .string (X.ba ah), nv]] w (PutOf Y B m0 m1 m2 al ev fv w r)
theorem Fr.names {w w' : World} {Y B : Nat} {m0 m1 m2 al : Value} {es : List O.El} {fs : List O.Fl} {ev fv ev' fv' : Value} (h : Fr w w' Y ev fv ev' fv') (p : PM Y B m0 m1 m2 al es fs ev fv w) {ns : List (List UInt8)} {nv : Value} (hn : SIn w ns nv) : SIn w' ns nv := hn.keep fun b cs hb => h.other p hb (by decide) (by decide) (by decide)
def isC (x : O.It) : Prop := x.e.kind = 10 ∧ x.call = true
theorem put_elemB_else {Qc : Exit → Act → World → Prop} {w : World} {Y B Q J K : Nat} {m0 m1 m2 al : Value} {es : List O.El} {fs : List O.Fl} {ead fad nad : Option Addr} {ecp fcp nl ncp : Nat} {inn ah : List UInt8} {x : O.It} {a : Option Addr} {c1 c2 c3 c4 c6 c8 c10 c12 c13 c14 c15 c16 c17 c18 c19 c20 c21 c22 c23 c24 c25 c26 c27 c28 c29 c30 c31 c32 c33 c34 c35 c36 c37 c38 c39 c40 c41 c42 c43 c44 c45 c46 c47 c48 c49 c50 c51 c52 c53 c54 c55 c56 c57 c58 c59 c60 c61 c62 c63 c64 c65 c66 c67 c68 c69 c70 c71 c72 c73 c74 c75 c76 c77 c78 c79 c80 c81 c82 c83 c84 c85 c86 c87 c88 c89 c90 c91 c92 c93 c94 c95 c96 c97 c98 c99 c100 c101 c102 c103 c104 c105 c106 c107 c108 c109 c110 c111 c112 c113 c114 c115 c116 c117 c118 c119 c120 c121 c122 c123 c124 c125 c126 c127 c128 c129 c130 c131 c132 c133 c134 c135 c136 c137 c138 c139 c140 c141 c142 c143 c144 c145 c146 c147 c148 c149 c150 c151 c152 c153 c154 c155 c156 c157 c158 c159 c160 c161 c162 c163 c164 c165 c166 c167 c168 c169 c170 c171 c172 c173 : Value} (hm : PM Y B m0 m1 m2 al es fs (.slice ead es.length ecp) (.slice fad fs.length fcp) w) (hQ : w.heap[Q]? = some (.cells #[.string (X.ba inn), .string (X.ba ah), .slice nad nl ncp] 112 (0, 0))) (hK : w.heap[K]? = some (.cells #[.string (X.ba (ah ++ x.e.id)), .string (X.ba x.e.nm), .int .u8 x.e.kind, .string (X.ba inn), .string (X.ba x.e.dflt), .string (X.ba x.e.att), .int .u8 0, .string ⟨#[]⟩, .string ⟨#[]⟩, .int .i64 0, .int .i64 x.e.tries] 36 (0, 0))) (hJ : w.heap[J]? = some (.cells #[.int .i64 x.ln, .int .i64 x.cl, .pointer none, .string (X.ba x.e.id), .string (X.ba x.e.nm), .int .u8 x.e.kind, .string (X.ba x.e.inn), .string (X.ba x.e.dflt), .string (X.ba x.e.att), .int .u8 0, .string ⟨#[]⟩, .string ⟨#[]⟩, .int .i64 0, .int .i64 x.e.tries, .string (X.ba x.called), .slice a 0 0] 144 (0, 0))) (hk : x.e.kind ≠ 10) 
  (hn : ∀ (w' : World) (u12 u13 u14 u15 u16 u125 u126 u127 u128 u129 u130 u131 u132 u133 u134 u135 u136 u137 u138 u139 u140 u141 u142 u143 u144 u145 u146 u147 u148 u149 u150 u151 u152 u153 u154 u155 u156 u157 u158 u159 u160 u161 u162 u163 u164 u165 u166 u167 u168 u169 u170 u171 u172 : Value), Below w.heap.size w w' → Qc .normal ⟨(.pointer (some ⟨Y, 0, none⟩) :: c1 :: c2 :: c3 :: c4 :: .pointer (some ⟨Q, 0, none⟩) :: c6 :: .func (.func 44) #[.pointer (some ⟨Y, 0, none⟩)] #[] :: c8 :: .pointer (some ⟨J, 0, none⟩) :: c10 :: .pointer (some ⟨K, 0, none⟩) :: u12 :: u13 :: u14 :: u15 :: u16 :: c17 :: c18 :: c19 :: c20 :: c21 :: c22 :: c23 :: c24 :: c25 :: c26 :: c27 :: c28 :: c29 :: c30 :: c31 :: c32 :: c33 :: c34 :: c35 :: c36 :: c37 :: c38 :: c39 :: c40 :: c41 :: c42 :: c43 :: c44 :: c45 :: c46 :: c47 :: c48 :: c49 :: c50 :: c51 :: c52 :: c53 :: c54 :: c55 :: c56 :: c57 :: c58 :: c59 :: c60 :: c61 :: c62 :: c63 :: c64 :: c65 :: c66 :: c67 :: c68 :: c69 :: c70 :: c71 :: c72 :: c73 :: c74 :: c75 :: c76 :: c77 :: c78 :: c79 :: c80 :: c81 :: c82 :: c83 :: c84 :: c85 :: c86 :: c87 :: c88 :: c89 :: c90 :: c91 :: c92 :: c93 :: c94 :: c95 :: c96 :: c97 :: c98 :: c99 :: c100 :: c101 :: c102 :: c103 :: c104 :: c105 :: c106 :: c107 :: c108 :: c109 :: c110 :: c111 :: c112 :: c113 :: c114 :: c115 :: c116 :: c117 :: c118 :: c119 :: c120 :: c121 :: c122 :: c123 :: c124 :: u125 :: u126 :: u127 :: u128 :: u129 :: u130 :: u131 :: u132 :: u133 :: u134 :: u135 :: u136 :: u137 :: u138 :: u139 :: u140 :: u141 :: u142 :: u143 :: u144 :: u145 :: u146 :: u147 :: u148 :: u149 :: u150 :: u151 :: u152 :: u153 :: u154 :: u155 :: u156 :: u157 :: u158 :: u159 :: u160 :: u161 :: u162 :: u163 :: u164 :: u165 :: u166 :: u167 :: u168 :: u169 :: u170 :: u171 :: u172 :: c173 :: []).toArray, []⟩ w') :
  Code.wp Tryz.prog (putAfter 19) Qc ⟨(.pointer (some ⟨Y, 0, none⟩) :: c1 :: c2 :: c3 :: c4 :: .pointer (some ⟨Q, 0, none⟩) :: c6 :: .func (.func 44) #[.pointer (some ⟨Y, 0, none⟩)] #[] :: c8 :: .pointer (some ⟨J, 0, none⟩) :: c10 :: .pointer (some ⟨K, 0, none⟩) :: c12 :: c13 :: c14 :: c15 :: c16 :: c17 :: c18 :: c19 :: c20 :: c21 :: c22 :: c23 :: c24 :: c25 :: c26 :: c27 :: c28 :: c29 :: c30 :: c31 :: c32 :: c33 :: c34 :: c35 :: c36 :: c37 :: c38 :: c39 :: c40 :: c41 :: c42 :: c43 :: c44 :: c45 :: c46 :: c47 :: c48 :: c49 :: c50 :: c51 :: c52 :: c53 :: c54 :: c55 :: c56 :: c57 :: c58 :: c59 :: c60 :: c61 :: c62 :: c63 :: c64 :: c65 :: c66 :: c67 :: c68 :: c69 :: c70 :: c71 :: c72 :: c73 :: c74 :: c75 :: c76 :: c77 :: c78 :: c79 :: c80 :: c81 :: c82 :: c83 :: c84 :: c85 :: c86 :: c87 :: c88 :: c89 :: c90 :: c91 :: c92 :: c93 :: c94 :: c95 :: c96 :: c97 :: c98 :: c99 :: c100 :: c101 :: c102 :: c103 :: c104 :: c105 :: c106 :: c107 :: c108 :: c109 :: c110 :: c111 :: c112 :: c113 :: c114 :: c115 :: c116 :: c117 :: c118 :: c119 :: c120 :: c121 :: c122 :: c123 :: c124 :: c125 :: c126 :: c127 :: c128 :: c129 :: c130 :: c131 :: c132 :: c133 :: c134 :: c135 :: c136 :: c137 :: c138 :: c139 :: c140 :: c141 :: c142 :: c143 :: c144 :: c145 :: c146 :: c147 :: c148 :: c149 :: c150 :: c151 :: c152 :: c153 :: c154 :: c155 :: c156 :: c157 :: c158 :: c159 :: c160 :: c161 :: c162 :: c163 :: c164 :: c165 :: c166 :: c167 :: c168 :: c169 :: c170 :: c171 :: c172 :: c173 :: []).toArray, []⟩ w := by
 have HNN := hid hn
 have HM := hid hm
 have HQ := hid hQ
 have HK := hid hK
 have HJ := hid hJ
 have hcall : ∀ args w, (callFunc 44 args).run Tryz.prog w = .ok (.enter 44 args) w := enters_of Tryz.func44 (by kernel_rfl) rfl
 obtain ⟨N, hN⟩ : ∃ N, w.heap.size = N := ⟨_, rfl⟩
 obtain ⟨w4, hw4⟩ : ∃ v, w.alloc (.cells #[.string (X.ba (ah ++ x.e.id)), .string (X.ba ah), .slice nad nl ncp] 112) = v := ⟨_, rfl⟩
 have hb4 : Below w.heap.size w w4 := by rw [← hw4]; exact (Below.refl _ w).alloc (Nat.le_refl _) _
 have HB4 := hid hb4
 have HN4 : Hid (w4.heap[N]? = some (.cells #[.string (X.ba (ah ++ x.e.id)), .string (X.ba ah), .slice nad nl ncp] 112 (0, 0))) := by show _ = _; rw [← hw4, ← hN]; exact heap_alloc_new w _
 have HJ4 := hid ((hb4.block J (Go.lt_of_block hJ)).trans hJ)
 have HK4 := hid ((hb4.block K (Go.lt_of_block hK)).trans hK)
 have HQ4 := hid ((hb4.block Q (Go.lt_of_block hQ)).trans hQ)
 have HW4 := hid hw4
 have HNE := hid hN
 obtain ⟨d0, d1, d2, d3, d4, d5, d6, d7, d8, d9, d10, d11, d12, d13, d14, d15, -⟩ := rowN16 HJ4.out
 obtain ⟨z0, z1, z2, z3, z4, z5, z6, z7, z8, z9, z10, -⟩ := rowN11 hK
 obtain ⟨v0, v1, v2⟩ := row3' hQ
 have t10 : ((x.e.kind : Int) == 10) = false := beq_eq_false_iff_ne.2 (by omega)
 clear hk
 clear hm hQ hK hJ hb4 hw4 hN hn
 conv => arg 2; whnf
 go_upto_region 21 with fail
 rw [HW4.out, HNE.out]
 clear HW4 v0 v1 v2 z0 z1 z2 z3 z4 z5 z6 z7 z8 z9 z10
 obtain ⟨z0, z1, z2, z3, z4, z5, z6, z7, z8, z9, z10, -⟩ := rowN11 HK4.out
 obtain ⟨n0, n1, n2⟩ := row3' HN4.out
 have HB5 := hid HB4.out
 go_wp2_with fail
 refine (put_nil _ _ _ _ _ _).mono ?_
 rintro en w6 ⟨rfl, hb6⟩
 have HB6 := hid (HB5.out.trans (hb6.mono HB5.out.size))
 clear hb6
 go_wp2_with fail
 exact HNN.out _ _ _ _ _ _ _ _ _ _ _ _ _ _ _ _ _ _ _ _ _ _ _ _ _ _ _ _ _ _ _ _ _ _ _ _ _ _ _ _ _ _ _ _ _ _ _ _ _ _ _ _ _ _ HB6.out
end Go.Proofs.YteejphiklpnjhaaGreatDoor
