/- put: a process that is called. -/
import Derived.Test.YteejphiklpnjhaaGreatDoorOPutF
namespace Go.Proofs.YteejphiklpnjhaaGreatDoor
open Go.RowKit Go.Maps
open Go.Lib (hid)
theorem own_form {w : World} {B : Nat} {e : TypeId} {size : Nat} {v : Value} {n : Nat} {xs : List Value} (h : w.ownsRow B e size v n xs) : ∃ a c, v = .slice a n c := by
  rcases h.2 with ⟨rfl, rfl⟩ | ⟨g, cap, cur, rfl, _⟩
  · exact ⟨none, 0, rfl⟩
  · exact ⟨_, _, rfl⟩
set_option maxRecDepth 100000 in
set_option maxHeartbeats 8000000 in
theorem put_elemB_err {Qc : Exit → Act → World → Prop} {w : World} {Y B Q J K : Nat} {m0 m1 m2 al : Value} {es : List O.El} {fs : List O.Fl} {ead fad nad : Option Addr} {ecp fcp nl ncp : Nat} {inn ah : List UInt8} {x : O.It} {a : Addr} {P : Nat → Prop} {all : List O.Pr} {ns : List (List UInt8)} {c1 c2 c3 c4 c6 c8 c10 c12 c13 c14 c15 c16 c17 c18 c19 c20 c21 c22 c23 c24 c25 c26 c27 c28 c29 c30 c31 c32 c33 c34 c35 c36 c37 c38 c39 c40 c41 c42 c43 c44 c45 c46 c47 c48 c49 c50 c51 c52 c53 c54 c55 c56 c57 c58 c59 c60 c61 c62 c63 c64 c65 c66 c67 c68 c69 c70 c71 c72 c73 c74 c75 c76 c77 c78 c79 c80 c81 c82 c83 c84 c85 c86 c87 c88 c89 c90 c91 c92 c93 c94 c95 c96 c97 c98 c99 c100 c101 c102 c103 c104 c105 c106 c107 c108 c109 c110 c111 c112 c113 c114 c115 c116 c117 c118 c119 c120 c121 c122 c123 c124 c125 c126 c127 c128 c129 c130 c131 c132 c133 c134 c135 c136 c137 c138 c139 c140 c141 c142 c143 c144 c145 c146 c147 c148 c149 c150 c151 c152 c153 c154 c155 c156 c157 c158 c159 c160 c161 c162 c163 c164 c165 c166 c167 c168 c169 c170 c171 c172 c173 : Value} (hm : PM Y B m0 m1 m2 al es fs (.slice ead es.length ecp) (.slice fad fs.length fcp) w) (hQ : w.heap[Q]? = some (.cells #[.string (X.ba inn), .string (X.ba ah), .slice nad nl ncp] 112 (0, 0))) (hK : w.heap[K]? = some (.cells #[.string (X.ba (ah ++ x.e.id)), .string (X.ba x.e.nm), .int .u8 x.e.kind, .string (X.ba inn), .string (X.ba x.e.dflt), .string (X.ba x.e.att), .int .u8 0, .string ⟨#[]⟩, .string ⟨#[]⟩, .int .i64 0, .int .i64 x.e.tries] 36 (0, 0))) (hJ : w.heap[J]? = some (.cells #[.int .i64 x.ln, .int .i64 x.cl, .pointer none, .string (X.ba x.e.id), .string (X.ba x.e.nm), .int .u8 x.e.kind, .string (X.ba x.e.inn), .string (X.ba x.e.dflt), .string (X.ba x.e.att), .int .u8 0, .string ⟨#[]⟩, .string ⟨#[]⟩, .int .i64 0, .int .i64 x.e.tries, .string (X.ba x.called), .slice (some a) 0 0] 144 (0, 0))) (hk : x.e.kind = 10) (hc : x.call = true) (hal : PrsIn w P all al) (hP : ∀ b, P b → b < B ∧ b ≠ Y) (hll : all.length ≤ 100000) (hsn : SIn w ns (.slice nad nl ncp)) (hnl : ns.length ≤ 1000) {er : Int} (hcal : O.callee all x.called ns = .error er)
    (hn : ∀ (g : Nat) (w' : World) (u12 u13 u14 u15 u16 u125 u126 u127 u128 u129 u130 u131 u132 u133 u134 u135 u136 u137 u138 u139 u140 u141 u142 u143 u144 u145 u146 u147 u148 u149 u150 u151 u152 u153 u154 u155 u156 u157 u158 u159 u160 u161 u162 u163 u164 u165 u166 u167 u168 u169 u170 u171 u172 : Value), w.heap.size ≤ g → w'.heap[g]? = some (faultRow er x.ln x.cl) → Below w.heap.size w w' → Qc .ret ⟨(.pointer (some ⟨Y, 0, none⟩) :: c1 :: c2 :: c3 :: c4 :: .pointer (some ⟨Q, 0, none⟩) :: .pointer (some ⟨g, 0, none⟩) :: .func (.func 44) #[.pointer (some ⟨Y, 0, none⟩)] #[] :: c8 :: .pointer (some ⟨J, 0, none⟩) :: c10 :: .pointer (some ⟨K, 0, none⟩) :: u12 :: u13 :: u14 :: u15 :: u16 :: c17 :: c18 :: c19 :: c20 :: c21 :: c22 :: c23 :: c24 :: c25 :: c26 :: c27 :: c28 :: c29 :: c30 :: c31 :: c32 :: c33 :: c34 :: c35 :: c36 :: c37 :: c38 :: c39 :: c40 :: c41 :: c42 :: c43 :: c44 :: c45 :: c46 :: c47 :: c48 :: c49 :: c50 :: c51 :: c52 :: c53 :: c54 :: c55 :: c56 :: c57 :: c58 :: c59 :: c60 :: c61 :: c62 :: c63 :: c64 :: c65 :: c66 :: c67 :: c68 :: c69 :: c70 :: c71 :: c72 :: c73 :: c74 :: c75 :: c76 :: c77 :: c78 :: c79 :: c80 :: c81 :: c82 :: c83 :: c84 :: c85 :: c86 :: c87 :: c88 :: c89 :: c90 :: c91 :: c92 :: c93 :: c94 :: c95 :: c96 :: c97 :: c98 :: c99 :: c100 :: c101 :: c102 :: c103 :: c104 :: c105 :: c106 :: c107 :: c108 :: c109 :: c110 :: c111 :: c112 :: c113 :: c114 :: c115 :: c116 :: c117 :: c118 :: c119 :: c120 :: c121 :: c122 :: c123 :: c124 :: u125 :: u126 :: u127 :: u128 :: u129 :: u130 :: u131 :: u132 :: u133 :: u134 :: u135 :: u136 :: u137 :: u138 :: u139 :: u140 :: u141 :: u142 :: u143 :: u144 :: u145 :: u146 :: u147 :: u148 :: u149 :: u150 :: u151 :: u152 :: u153 :: u154 :: u155 :: u156 :: u157 :: u158 :: u159 :: u160 :: u161 :: u162 :: u163 :: u164 :: u165 :: u166 :: u167 :: u168 :: u169 :: u170 :: u171 :: u172 :: c173 :: []).toArray, []⟩ w') :
    Code.wp Tryz.prog (putAfter 19) Qc ⟨(.pointer (some ⟨Y, 0, none⟩) :: c1 :: c2 :: c3 :: c4 :: .pointer (some ⟨Q, 0, none⟩) :: c6 :: .func (.func 44) #[.pointer (some ⟨Y, 0, none⟩)] #[] :: c8 :: .pointer (some ⟨J, 0, none⟩) :: c10 :: .pointer (some ⟨K, 0, none⟩) :: c12 :: c13 :: c14 :: c15 :: c16 :: c17 :: c18 :: c19 :: c20 :: c21 :: c22 :: c23 :: c24 :: c25 :: c26 :: c27 :: c28 :: c29 :: c30 :: c31 :: c32 :: c33 :: c34 :: c35 :: c36 :: c37 :: c38 :: c39 :: c40 :: c41 :: c42 :: c43 :: c44 :: c45 :: c46 :: c47 :: c48 :: c49 :: c50 :: c51 :: c52 :: c53 :: c54 :: c55 :: c56 :: c57 :: c58 :: c59 :: c60 :: c61 :: c62 :: c63 :: c64 :: c65 :: c66 :: c67 :: c68 :: c69 :: c70 :: c71 :: c72 :: c73 :: c74 :: c75 :: c76 :: c77 :: c78 :: c79 :: c80 :: c81 :: c82 :: c83 :: c84 :: c85 :: c86 :: c87 :: c88 :: c89 :: c90 :: c91 :: c92 :: c93 :: c94 :: c95 :: c96 :: c97 :: c98 :: c99 :: c100 :: c101 :: c102 :: c103 :: c104 :: c105 :: c106 :: c107 :: c108 :: c109 :: c110 :: c111 :: c112 :: c113 :: c114 :: c115 :: c116 :: c117 :: c118 :: c119 :: c120 :: c121 :: c122 :: c123 :: c124 :: c125 :: c126 :: c127 :: c128 :: c129 :: c130 :: c131 :: c132 :: c133 :: c134 :: c135 :: c136 :: c137 :: c138 :: c139 :: c140 :: c141 :: c142 :: c143 :: c144 :: c145 :: c146 :: c147 :: c148 :: c149 :: c150 :: c151 :: c152 :: c153 :: c154 :: c155 :: c156 :: c157 :: c158 :: c159 :: c160 :: c161 :: c162 :: c163 :: c164 :: c165 :: c166 :: c167 :: c168 :: c169 :: c170 :: c171 :: c172 :: c173 :: []).toArray, []⟩ w := by
  have HNN := hid hn
  have HCAL := hid hcal
  clear hcal
  have HM := hid hm
  have HQ := hid hQ
  have HK := hid hK
  have HJ := hid hJ
  have hcall : ∀ args w, (callFunc 44 args).run Tryz.prog w = .ok (.enter 44 args) w := enters_of Tryz.func44 (by kernel_rfl) rfl
  obtain ⟨N, hN⟩ : ∃ N, w.heap.size = N := ⟨_, rfl⟩
  obtain ⟨w4, hw4⟩ : ∃ v, w.alloc (.cells #[.string (X.ba (ah ++ x.e.id)), .string (X.ba ah), .slice nad nl ncp] 112) = v := ⟨_, rfl⟩
  have hb4 : Below w.heap.size w w4 := by rw [← hw4]; exact (Below.refl _ w).alloc (Nat.le_refl _) _
  have HB4 := hid hb4
  have HN4 : Hid (w4.heap[N]? = some (.cells #[.string (X.ba (ah ++ x.e.id)), .string (X.ba ah), .slice nad nl ncp] 112 (0, 0))) := by show _ = _; rw [← hw4, ← hN]; exact heap_alloc_new w _
  have HJ4 := hid ((hb4.block J (Go.lt_of_block hJ)).trans hJ)
  have HK4 := hid ((hb4.block K (Go.lt_of_block hK)).trans hK)
  have HQ4 := hid ((hb4.block Q (Go.lt_of_block hQ)).trans hQ)
  have HW4 := hid hw4
  have HNE := hid hN
  obtain ⟨d0, d1, d2, d3, d4, d5, d6, d7, d8, d9, d10, d11, d12, d13, d14, d15, -⟩ := rowN16 HJ4.out
  obtain ⟨z0, z1, z2, z3, z4, z5, z6, z7, z8, z9, z10, -⟩ := rowN11 hK
  obtain ⟨v0, v1, v2⟩ := row3' hQ
  have t10 : ((x.e.kind : Int) == 10) = true := beq_iff_eq.2 (by omega)
  have cI := isCall_any (w := w4) x none (some a) hc
  rw [hc] at cI
  have HAL := hid hal
  have HP := hid hP
  have HPL : Hid (∀ b, P b → b < w.heap.size) := fun b hb => Nat.lt_of_lt_of_le (hP b hb).1 hm.hB
  have HLL := hid hll
  have HSN := hid hsn
  have HNL := hid hnl
  clear hk hc hal hP hll hsn hnl
  clear hm hQ hK hJ hb4 hw4 hN hn
  conv => arg 2; whnf
  go_upto_region 21 with fail
  rw [HW4.out, HNE.out]
  clear HW4 v0 v1 v2 z0 z1 z2 z3 z4 z5 z6 z7 z8 z9 z10
  obtain ⟨z0, z1, z2, z3, z4, z5, z6, z7, z8, z9, z10, -⟩ := rowN11 HK4.out
  obtain ⟨n0, n1, n2⟩ := row3' HN4.out
  go_wp2_with fail
  refine cI.mono ?_
  rintro en w5 ⟨rfl, hb5⟩
  have HB5 := hid (HB4.out.trans (hb5.mono HB4.out.size))
  have HN5 := hid ((hb5.block N (Go.lt_of_block HN4.out)).trans HN4.out)
  have HJ5 := hid ((hb5.block J (Go.lt_of_block HJ4.out)).trans HJ4.out)
  have HK5 := hid ((hb5.block K (Go.lt_of_block HK4.out)).trans HK4.out)
  have HQ5 := hid ((hb5.block Q (Go.lt_of_block HQ4.out)).trans HQ4.out)
  clear hb5 cI n0 n1 n2 d0 d1 d2 d3 d4 d5 d6 d7 d8 d9 d10 d11 d12 d13 d14 d15 z0 z1 z2 z3 z4 z5 z6 z7 z8 z9 z10
  have hal5 : PrsIn w5 P all al := HAL.out.keep (fun _ h => h) (fun b hb => HB5.out.block b (HPL.out b hb))
  have hP5 : ∀ b, P b → b < w5.heap.size := fun b hb => Nat.lt_of_lt_of_le (HPL.out b hb) HB5.out.size
  have hM5 := (HB5.out.block Y (Go.lt_of_block HM.out.x)).trans HM.out.x
  have hsn5 := HSN.out.below HB5.out
  have cC : Calls Tryz.prog 70 #[.pointer (some ⟨Y, 0, none⟩), .agg #[.int .i64 x.ln, .int .i64 x.cl, .pointer none, .string (X.ba x.e.id), .string (X.ba x.e.nm), .int .u8 x.e.kind, .string (X.ba x.e.inn), .string (X.ba x.e.dflt), .string (X.ba x.e.att), .int .u8 0, .string ⟨#[]⟩, .string ⟨#[]⟩, .int .i64 0, .int .i64 x.e.tries, .string (X.ba x.called), .slice (some a) 0 0], .agg #[.string (X.ba inn), .string (X.ba ah), .slice nad nl ncp]] w5 fun en W' => ∃ g, en = .returned (.tuple #[.agg zero4.toArray, .pointer (some ⟨g, 0, none⟩)]) ∧ w5.heap.size ≤ g ∧ W'.heap[g]? = some (faultRow er x.ln x.cl) ∧ Below w5.heap.size w5 W' := by
    rcases callee_parts all x.called ns with ⟨h1, h2⟩ | ⟨k, p, h1, h2, ⟨h3, h4⟩ | ⟨h3, ⟨h4, h5⟩ | ⟨h4, h5⟩⟩⟩
    · obtain rfl : er = 120 := by have := HCAL.out.symm.trans h2; injection this
      exact callee_none hal5 hP5 HLL.out hM5 x none (some a) _ _ _ hsn5 (by have := HNL.out; omega) h1
    · obtain rfl : er = 84 := by have := HCAL.out.symm.trans h4; injection this
      exact callee_deep hal5 hP5 HLL.out hM5 x none (some a) _ _ _ hsn5 (by have := HNL.out; omega) h1 h3
    · obtain rfl : er = 121 := by have := HCAL.out.symm.trans h5; injection this
      exact callee_vars hal5 hP5 HLL.out hM5 x none (some a) _ _ _ hsn5 (by have := HNL.out; omega) h1 h2 h3 h4
    · have := HCAL.out.symm.trans h5
      cases this
  clear hal5 hP5 hM5 hsn5
  obtain ⟨d0, d1, d2, d3, d4, d5, d6, d7, d8, d9, d10, d11, d12, d13, d14, d15, -⟩ := rowN16 HJ5.out
  obtain ⟨v0, v1, v2⟩ := row3' HQ5.out
  go_wp2_with fail
  refine cC.mono ?_
  rintro en w6 ⟨g, rfl, hg, hr, hb6⟩
  have HB6 := hid (HB5.out.trans (hb6.mono HB5.out.size))
  have HG : Hid (w.heap.size ≤ g) := by have := HB5.out.size; show _ ≤ _; omega
  have HRW := hid hr
  rw [show (zero4.toArray : Array Value) = #[.string ⟨#[]⟩, .string ⟨#[]⟩, .slice none 0 0, .slice none 0 0] from rfl]
  clear hg hr hb6 cC v0 v1 v2 d0 d1 d2 d3 d4 d5 d6 d7 d8 d9 d10 d11 d12 d13 d14 d15
  go_wp2_with fail
  exact HNN.out g _ _ _ _ _ _ _ _ _ _ _ _ _ _ _ _ _ _ _ _ _ _ _ _ _ _ _ _ _ _ _ _ _ _ _ _ _ _ _ _ _ _ _ _ _ _ _ _ _ _ _ _ _ _ HG.out ((Go.Lib.alloc_old _ _ _ (Go.lt_of_block HRW.out)).trans HRW.out) (HB6.out.alloc HB6.out.size _)
set_option maxRecDepth 100000 in
set_option maxHeartbeats 8000000 in
theorem put_elemB_call {Qc : Exit → Act → World → Prop} {w : World} {Y B Q J K : Nat} {m0 m1 m2 al : Value} {es : List O.El} {fs : List O.Fl} {ead fad nad : Option Addr} {ecp fcp nl ncp : Nat} {inn ah : List UInt8} {x : O.It} {a : Addr} {P : Nat → Prop} {all : List O.Pr} {ns : List (List UInt8)} {c1 c2 c3 c4 c6 c8 c10 c12 c13 c14 c15 c16 c17 c18 c19 c20 c21 c22 c23 c24 c25 c26 c27 c28 c29 c30 c31 c32 c33 c34 c35 c36 c37 c38 c39 c40 c41 c42 c43 c44 c45 c46 c47 c48 c49 c50 c51 c52 c53 c54 c55 c56 c57 c58 c59 c60 c61 c62 c63 c64 c65 c66 c67 c68 c69 c70 c71 c72 c73 c74 c75 c76 c77 c78 c79 c80 c81 c82 c83 c84 c85 c86 c87 c88 c89 c90 c91 c92 c93 c94 c95 c96 c97 c98 c99 c100 c101 c102 c103 c104 c105 c106 c107 c108 c109 c110 c111 c112 c113 c114 c115 c116 c117 c118 c119 c120 c121 c122 c123 c124 c125 c126 c127 c128 c129 c130 c131 c132 c133 c134 c135 c136 c137 c138 c139 c140 c141 c142 c143 c144 c145 c146 c147 c148 c149 c150 c151 c152 c153 c154 c155 c156 c157 c158 c159 c160 c161 c162 c163 c164 c165 c166 c167 c168 c169 c170 c171 c172 c173 : Value} (hm : PM Y B m0 m1 m2 al es fs (.slice ead es.length ecp) (.slice fad fs.length fcp) w) (hQ : w.heap[Q]? = some (.cells #[.string (X.ba inn), .string (X.ba ah), .slice nad nl ncp] 112 (0, 0))) (hK : w.heap[K]? = some (.cells #[.string (X.ba (ah ++ x.e.id)), .string (X.ba x.e.nm), .int .u8 x.e.kind, .string (X.ba inn), .string (X.ba x.e.dflt), .string (X.ba x.e.att), .int .u8 0, .string ⟨#[]⟩, .string ⟨#[]⟩, .int .i64 0, .int .i64 x.e.tries] 36 (0, 0))) (hJ : w.heap[J]? = some (.cells #[.int .i64 x.ln, .int .i64 x.cl, .pointer none, .string (X.ba x.e.id), .string (X.ba x.e.nm), .int .u8 x.e.kind, .string (X.ba x.e.inn), .string (X.ba x.e.dflt), .string (X.ba x.e.att), .int .u8 0, .string ⟨#[]⟩, .string ⟨#[]⟩, .int .i64 0, .int .i64 x.e.tries, .string (X.ba x.called), .slice (some a) 0 0] 144 (0, 0))) (hk : x.e.kind = 10) (hc : x.call = true) (hal : PrsIn w P all al) (hP : ∀ b, P b → b < B ∧ b ≠ Y) (hll : all.length ≤ 100000) (hsn : SIn w ns (.slice nad nl ncp)) (hnl : ns.length ≤ 1000) {pr : O.Pr} (hcal : O.callee all x.called ns = .ok pr) {k : Nat} (ih : PutC P all k) {r2 : Except O.Er (List O.El × List O.Fl)} (hput : O.put all k pr.items (ah ++ x.e.id) ((ah ++ x.e.id) ++ [46]) (ns ++ [x.called]) es fs = some r2) (hlf : pr.items.all O.fitI = true) (hli : pr.items.length ≤ 2000) (hid0 : x.e.id.length ≤ 100000) (hah : ah.length + (k + 1) * 200000 ≤ 1000000000) (hns : ns.length + (k + 1) ≤ 1000) (hel : es.length ≤ 64 ∧ fs.length ≤ 128)
    (hn : ∀ (es2 : List O.El) (fs2 : List O.Fl) (ead2 fad2 : Option Addr) (ecp2 fcp2 : Nat) (w' : World) (u12 u13 u14 u15 u16 u125 u126 u127 u128 u129 u130 u131 u132 u133 u134 u135 u136 u137 u138 u139 u140 u141 u142 u143 u144 u145 u146 u147 u148 u149 u150 u151 u152 u153 u154 u155 u156 u157 u158 u159 u160 u161 u162 u163 u164 u165 u166 u167 u168 u169 u170 u171 u172 : Value), r2 = .ok (es2, fs2) → PM Y B m0 m1 m2 al es2 fs2 (.slice ead2 es2.length ecp2) (.slice fad2 fs2.length fcp2) w' → Fr w w' Y (.slice ead es.length ecp) (.slice fad fs.length fcp) (.slice ead2 es2.length ecp2) (.slice fad2 fs2.length fcp2) → es2.length ≤ 64 ∧ fs2.length ≤ 128 → Qc .normal ⟨(.pointer (some ⟨Y, 0, none⟩) :: c1 :: c2 :: c3 :: c4 :: .pointer (some ⟨Q, 0, none⟩) :: c6 :: .func (.func 44) #[.pointer (some ⟨Y, 0, none⟩)] #[] :: c8 :: .pointer (some ⟨J, 0, none⟩) :: c10 :: .pointer (some ⟨K, 0, none⟩) :: u12 :: u13 :: u14 :: u15 :: u16 :: c17 :: c18 :: c19 :: c20 :: c21 :: c22 :: c23 :: c24 :: c25 :: c26 :: c27 :: c28 :: c29 :: c30 :: c31 :: c32 :: c33 :: c34 :: c35 :: c36 :: c37 :: c38 :: c39 :: c40 :: c41 :: c42 :: c43 :: c44 :: c45 :: c46 :: c47 :: c48 :: c49 :: c50 :: c51 :: c52 :: c53 :: c54 :: c55 :: c56 :: c57 :: c58 :: c59 :: c60 :: c61 :: c62 :: c63 :: c64 :: c65 :: c66 :: c67 :: c68 :: c69 :: c70 :: c71 :: c72 :: c73 :: c74 :: c75 :: c76 :: c77 :: c78 :: c79 :: c80 :: c81 :: c82 :: c83 :: c84 :: c85 :: c86 :: c87 :: c88 :: c89 :: c90 :: c91 :: c92 :: c93 :: c94 :: c95 :: c96 :: c97 :: c98 :: c99 :: c100 :: c101 :: c102 :: c103 :: c104 :: c105 :: c106 :: c107 :: c108 :: c109 :: c110 :: c111 :: c112 :: c113 :: c114 :: c115 :: c116 :: c117 :: c118 :: c119 :: c120 :: c121 :: c122 :: c123 :: c124 :: u125 :: u126 :: u127 :: u128 :: u129 :: u130 :: u131 :: u132 :: u133 :: u134 :: u135 :: u136 :: u137 :: u138 :: u139 :: u140 :: u141 :: u142 :: u143 :: u144 :: u145 :: u146 :: u147 :: u148 :: u149 :: u150 :: u151 :: u152 :: u153 :: u154 :: u155 :: u156 :: u157 :: u158 :: u159 :: u160 :: u161 :: u162 :: u163 :: u164 :: u165 :: u166 :: u167 :: u168 :: u169 :: u170 :: u171 :: u172 :: c173 :: []).toArray, []⟩ w')
    (hr : ∀ (e : O.Er) (g : Nat) (ev' fv' : Value) (w' : World) (u12 u13 u14 u15 u16 u125 u126 u127 u128 u129 u130 u131 u132 u133 u134 u135 u136 u137 u138 u139 u140 u141 u142 u143 u144 u145 u146 u147 u148 u149 u150 u151 u152 u153 u154 u155 u156 u157 u158 u159 u160 u161 u162 u163 u164 u165 u166 u167 u168 u169 u170 u171 u172 : Value), r2 = .error e → w.heap.size ≤ g → w'.heap[g]? = some (faultRow e.1 e.2.1 e.2.2) → Fr w w' Y (.slice ead es.length ecp) (.slice fad fs.length fcp) ev' fv' → Qc .ret ⟨(.pointer (some ⟨Y, 0, none⟩) :: c1 :: c2 :: c3 :: c4 :: .pointer (some ⟨Q, 0, none⟩) :: .pointer (some ⟨g, 0, none⟩) :: .func (.func 44) #[.pointer (some ⟨Y, 0, none⟩)] #[] :: c8 :: .pointer (some ⟨J, 0, none⟩) :: c10 :: .pointer (some ⟨K, 0, none⟩) :: u12 :: u13 :: u14 :: u15 :: u16 :: c17 :: c18 :: c19 :: c20 :: c21 :: c22 :: c23 :: c24 :: c25 :: c26 :: c27 :: c28 :: c29 :: c30 :: c31 :: c32 :: c33 :: c34 :: c35 :: c36 :: c37 :: c38 :: c39 :: c40 :: c41 :: c42 :: c43 :: c44 :: c45 :: c46 :: c47 :: c48 :: c49 :: c50 :: c51 :: c52 :: c53 :: c54 :: c55 :: c56 :: c57 :: c58 :: c59 :: c60 :: c61 :: c62 :: c63 :: c64 :: c65 :: c66 :: c67 :: c68 :: c69 :: c70 :: c71 :: c72 :: c73 :: c74 :: c75 :: c76 :: c77 :: c78 :: c79 :: c80 :: c81 :: c82 :: c83 :: c84 :: c85 :: c86 :: c87 :: c88 :: c89 :: c90 :: c91 :: c92 :: c93 :: c94 :: c95 :: c96 :: c97 :: c98 :: c99 :: c100 :: c101 :: c102 :: c103 :: c104 :: c105 :: c106 :: c107 :: c108 :: c109 :: c110 :: c111 :: c112 :: c113 :: c114 :: c115 :: c116 :: c117 :: c118 :: c119 :: c120 :: c121 :: c122 :: c123 :: c124 :: u125 :: u126 :: u127 :: u128 :: u129 :: u130 :: u131 :: u132 :: u133 :: u134 :: u135 :: u136 :: u137 :: u138 :: u139 :: u140 :: u141 :: u142 :: u143 :: u144 :: u145 :: u146 :: u147 :: u148 :: u149 :: u150 :: u151 :: u152 :: u153 :: u154 :: u155 :: u156 :: u157 :: u158 :: u159 :: u160 :: u161 :: u162 :: u163 :: u164 :: u165 :: u166 :: u167 :: u168 :: u169 :: u170 :: u171 :: u172 :: c173 :: []).toArray, []⟩ w') :
    Code.wp Tryz.prog (putAfter 19) Qc ⟨(.pointer (some ⟨Y, 0, none⟩) :: c1 :: c2 :: c3 :: c4 :: .pointer (some ⟨Q, 0, none⟩) :: c6 :: .func (.func 44) #[.pointer (some ⟨Y, 0, none⟩)] #[] :: c8 :: .pointer (some ⟨J, 0, none⟩) :: c10 :: .pointer (some ⟨K, 0, none⟩) :: c12 :: c13 :: c14 :: c15 :: c16 :: c17 :: c18 :: c19 :: c20 :: c21 :: c22 :: c23 :: c24 :: c25 :: c26 :: c27 :: c28 :: c29 :: c30 :: c31 :: c32 :: c33 :: c34 :: c35 :: c36 :: c37 :: c38 :: c39 :: c40 :: c41 :: c42 :: c43 :: c44 :: c45 :: c46 :: c47 :: c48 :: c49 :: c50 :: c51 :: c52 :: c53 :: c54 :: c55 :: c56 :: c57 :: c58 :: c59 :: c60 :: c61 :: c62 :: c63 :: c64 :: c65 :: c66 :: c67 :: c68 :: c69 :: c70 :: c71 :: c72 :: c73 :: c74 :: c75 :: c76 :: c77 :: c78 :: c79 :: c80 :: c81 :: c82 :: c83 :: c84 :: c85 :: c86 :: c87 :: c88 :: c89 :: c90 :: c91 :: c92 :: c93 :: c94 :: c95 :: c96 :: c97 :: c98 :: c99 :: c100 :: c101 :: c102 :: c103 :: c104 :: c105 :: c106 :: c107 :: c108 :: c109 :: c110 :: c111 :: c112 :: c113 :: c114 :: c115 :: c116 :: c117 :: c118 :: c119 :: c120 :: c121 :: c122 :: c123 :: c124 :: c125 :: c126 :: c127 :: c128 :: c129 :: c130 :: c131 :: c132 :: c133 :: c134 :: c135 :: c136 :: c137 :: c138 :: c139 :: c140 :: c141 :: c142 :: c143 :: c144 :: c145 :: c146 :: c147 :: c148 :: c149 :: c150 :: c151 :: c152 :: c153 :: c154 :: c155 :: c156 :: c157 :: c158 :: c159 :: c160 :: c161 :: c162 :: c163 :: c164 :: c165 :: c166 :: c167 :: c168 :: c169 :: c170 :: c171 :: c172 :: c173 :: []).toArray, []⟩ w := by
  have HNN := hid hn
  have HRR := hid hr
  have HCAL := hid hcal
  have IH := hid ih
  obtain ⟨ah2, hah2⟩ : ∃ a, (ah ++ x.e.id) ++ [46] = a := ⟨_, rfl⟩
  rw [hah2] at hput
  have HA2 := hid hah2
  have HAL2 : Hid (ah2.length = ah.length + x.e.id.length + 1) := by show _ = _; rw [← hah2]; simp; omega
  clear hah2
  have HPUT := hid hput
  have HLF := hid hlf
  have HLI := hid hli
  have HID0 := hid hid0
  have HAH := hid hah
  have HNS := hid hns
  have HEL := hid hel
  clear hcal hr ih hput hlf hli hid0 hah hns hel
  have HM := hid hm
  have HQ := hid hQ
  have HK := hid hK
  have HJ := hid hJ
  have hcall : ∀ args w, (callFunc 44 args).run Tryz.prog w = .ok (.enter 44 args) w := enters_of Tryz.func44 (by kernel_rfl) rfl
  obtain ⟨N, hN⟩ : ∃ N, w.heap.size = N := ⟨_, rfl⟩
  obtain ⟨w4, hw4⟩ : ∃ v, w.alloc (.cells #[.string (X.ba (ah ++ x.e.id)), .string (X.ba ah), .slice nad nl ncp] 112) = v := ⟨_, rfl⟩
  have hb4 : Below w.heap.size w w4 := by rw [← hw4]; exact (Below.refl _ w).alloc (Nat.le_refl _) _
  have HB4 := hid hb4
  have HN4 : Hid (w4.heap[N]? = some (.cells #[.string (X.ba (ah ++ x.e.id)), .string (X.ba ah), .slice nad nl ncp] 112 (0, 0))) := by show _ = _; rw [← hw4, ← hN]; exact heap_alloc_new w _
  have HJ4 := hid ((hb4.block J (Go.lt_of_block hJ)).trans hJ)
  have HK4 := hid ((hb4.block K (Go.lt_of_block hK)).trans hK)
  have HQ4 := hid ((hb4.block Q (Go.lt_of_block hQ)).trans hQ)
  have HW4 := hid hw4
  have HNE := hid hN
  obtain ⟨d0, d1, d2, d3, d4, d5, d6, d7, d8, d9, d10, d11, d12, d13, d14, d15, -⟩ := rowN16 HJ4.out
  obtain ⟨z0, z1, z2, z3, z4, z5, z6, z7, z8, z9, z10, -⟩ := rowN11 hK
  obtain ⟨v0, v1, v2⟩ := row3' hQ
  have t10 : ((x.e.kind : Int) == 10) = true := beq_iff_eq.2 (by omega)
  have cI := isCall_any (w := w4) x none (some a) hc
  rw [hc] at cI
  have HAL := hid hal
  have HP := hid hP
  have HPL : Hid (∀ b, P b → b < w.heap.size) := fun b hb => Nat.lt_of_lt_of_le (hP b hb).1 hm.hB
  have HLL := hid hll
  have HSN := hid hsn
  have HNL := hid hnl
  clear hk hc hal hP hll hsn hnl
  clear hm hQ hK hJ hb4 hw4 hN hn
  conv => arg 2; whnf
  go_upto_region 21 with fail
  rw [HW4.out, HNE.out]
  clear HW4 v0 v1 v2 z0 z1 z2 z3 z4 z5 z6 z7 z8 z9 z10
  obtain ⟨z0, z1, z2, z3, z4, z5, z6, z7, z8, z9, z10, -⟩ := rowN11 HK4.out
  obtain ⟨n0, n1, n2⟩ := row3' HN4.out
  go_wp2_with fail
  refine cI.mono ?_
  rintro en w5 ⟨rfl, hb5⟩
  have HB5 := hid (HB4.out.trans (hb5.mono HB4.out.size))
  have HN5 := hid ((hb5.block N (Go.lt_of_block HN4.out)).trans HN4.out)
  have HJ5 := hid ((hb5.block J (Go.lt_of_block HJ4.out)).trans HJ4.out)
  have HK5 := hid ((hb5.block K (Go.lt_of_block HK4.out)).trans HK4.out)
  have HQ5 := hid ((hb5.block Q (Go.lt_of_block HQ4.out)).trans HQ4.out)
  clear hb5 cI n0 n1 n2 d0 d1 d2 d3 d4 d5 d6 d7 d8 d9 d10 d11 d12 d13 d14 d15 z0 z1 z2 z3 z4 z5 z6 z7 z8 z9 z10
  have hal5 : PrsIn w5 P all al := HAL.out.keep (fun _ h => h) (fun b hb => HB5.out.block b (HPL.out b hb))
  have hP5 : ∀ b, P b → b < w5.heap.size := fun b hb => Nat.lt_of_lt_of_le (HPL.out b hb) HB5.out.size
  have hM5 := (HB5.out.block Y (Go.lt_of_block HM.out.x)).trans HM.out.x
  have hsn5 := HSN.out.below HB5.out
  have cC : Calls Tryz.prog 70 #[.pointer (some ⟨Y, 0, none⟩), .agg #[.int .i64 x.ln, .int .i64 x.cl, .pointer none, .string (X.ba x.e.id), .string (X.ba x.e.nm), .int .u8 x.e.kind, .string (X.ba x.e.inn), .string (X.ba x.e.dflt), .string (X.ba x.e.att), .int .u8 0, .string ⟨#[]⟩, .string ⟨#[]⟩, .int .i64 0, .int .i64 x.e.tries, .string (X.ba x.called), .slice (some a) 0 0], .agg #[.string (X.ba inn), .string (X.ba ah), .slice nad nl ncp]] w5 fun en W' => ∃ cs, en = .returned (.tuple #[.agg cs.toArray, .pointer none]) ∧ PrHas w5 P pr cs ∧ Below w5.heap.size w5 W' := by
    rcases callee_parts all x.called ns with ⟨h1, h2⟩ | ⟨k, p, h1, h2, ⟨h3, h4⟩ | ⟨h3, ⟨h4, h5⟩ | ⟨h4, h5⟩⟩⟩
    · have := HCAL.out.symm.trans h2
      cases this
    · have := HCAL.out.symm.trans h4
      cases this
    · have := HCAL.out.symm.trans h5
      cases this
    · obtain rfl : pr = p := by have := HCAL.out.symm.trans h5; injection this
      exact callee_ok hal5 hP5 HLL.out hM5 x none (some a) _ _ _ hsn5 (by have := HNL.out; omega) h1 h2 h3 h4
  have HP5 := hid hP5
  clear hal5 hP5 hM5 hsn5
  obtain ⟨d0, d1, d2, d3, d4, d5, d6, d7, d8, d9, d10, d11, d12, d13, d14, d15, -⟩ := rowN16 HJ5.out
  obtain ⟨v0, v1, v2⟩ := row3' HQ5.out
  go_wp2_with fail
  refine cC.mono ?_
  rintro en w6 ⟨cs, rfl, hcs, hb6⟩
  obtain ⟨vv, iv, rfl, hvv, hiv⟩ := hcs
  obtain ⟨vad, vcp, rfl⟩ := hvv.shape
  obtain ⟨iad, icp, rfl⟩ := hiv.shape
  have HIV := hid hiv
  obtain ⟨R, hR⟩ : ∃ R, w6.heap.size = R := ⟨_, rfl⟩
  obtain ⟨vl, hvl⟩ : ∃ v, pr.vars.length = v := ⟨_, rfl⟩
  obtain ⟨il, hil⟩ : ∃ v, pr.items.length = v := ⟨_, rfl⟩
  rw [hvl, hil]
  rw [hil] at HIV
  obtain ⟨w7, hw7⟩ : ∃ v, w6.alloc (.cells #[.string (X.ba pr.id), .string (X.ba pr.nm), .slice vad vl vcp, .slice iad il icp] 106) = v := ⟨_, rfl⟩
  have hb7 : Below w5.heap.size w5 w7 := by rw [← hw7]; exact hb6.alloc hb6.size _
  have HB7 := hid (HB5.out.trans (hb7.mono HB5.out.size))
  have HR7 : Hid (w7.heap[R]? = some (.cells #[.string (X.ba pr.id), .string (X.ba pr.nm), .slice vad vl vcp, .slice iad il icp] 106 (0, 0))) := by show _ = _; rw [← hw7, ← hR]; exact heap_alloc_new w6 _
  have HN7 := hid ((hb7.block N (Go.lt_of_block HN5.out)).trans HN5.out)
  have HJ7 := hid ((hb7.block J (Go.lt_of_block HJ5.out)).trans HJ5.out)
  have HK7 := hid ((hb7.block K (Go.lt_of_block HK5.out)).trans HK5.out)
  have HQ7 := hid ((hb7.block Q (Go.lt_of_block HQ5.out)).trans HQ5.out)
  have HI7 : Hid (ItsIn w7 P pr.items (.slice iad il icp)) := HIV.out.keep (fun _ h => h) (fun b hb => hb7.block b (HP5.out b hb))
  have HW7 := hid hw7
  have HRE := hid hR
  clear hvv hiv hb6 hb7 hw7 hR hvl hil cC v0 v1 v2 d0 d1 d2 d3 d4 d5 d6 d7 d8 d9 d10 d11 d12 d13 d14 d15
  rw [show (([Value.string (X.ba pr.id), .string (X.ba pr.nm), .slice vad vl vcp, .slice iad il icp] : List Value).toArray) = #[.string (X.ba pr.id), .string (X.ba pr.nm), .slice vad vl vcp, .slice iad il icp] from rfl]
  go_upto_region 26 with fail
  rw [HW7.out, HRE.out]
  clear HW7 HRE
  refine put_r26 HQ7.out HK7.out HJ7.out HR7.out HN7.out (HSN.out.below HB7.out) HNL.out (by rw [ba_size, List.length_append]; have := HAH.out; have := HID0.out; omega) ?_
  intro g1 cap1 w8 u151 u152 u153 u154 u155 u156 u157 u158 u159 u160 u161 u162 u163 u164 u165 hb8 how _
  rw [show (⟨#[46]⟩ : ByteArray) = X.ba [46] from rfl, ba_app, HA2.out]
  obtain ⟨w9, hw9⟩ : ∃ v, (((w8.setCell ⟨N, 0, none⟩ (.string (X.ba (ah ++ x.e.id)))).setCell ⟨N, 1, none⟩ (.string (X.ba ah2))).setCell ⟨N, 2, none⟩ (.slice (some ⟨g1, 0, none⟩) (ns.length + 1) cap1)) = v := ⟨_, rfl⟩
  have hB8 : Below w.heap.size w w8 := HB7.out.trans (hb8.mono HB7.out.size)
  have hN8 := (hb8.block N (Go.lt_of_block HN7.out)).trans HN7.out
  have hg9 : w8.grownBy w9 (some N) := by rw [← hw9]; exact sts_grown [.string (X.ba (ah ++ x.e.id)), .string (X.ba ah2), .slice (some ⟨g1, 0, none⟩) (ns.length + 1) cap1] w8 N 0
  have HN9 : Hid (w9.heap[N]? = some (.cells #[.string (X.ba (ah ++ x.e.id)), .string (X.ba ah2), .slice (some ⟨g1, 0, none⟩) (ns.length + 1) cap1] 112 (0, 0))) := by
    show _ = _
    rw [← hw9]
    exact row_set (row_set (row_set hN8 0 _) 1 _) 2 _
  have HM9 := hid ((HM.out.below hB8).past HM.out (Nat.le_of_eq HNE.out) hg9)
  have HF9 := hid ((Fr.below hB8 Y (.slice ead es.length ecp) (.slice fad fs.length fcp)).past (Nat.le_of_eq HNE.out) hg9)
  have hs8 : SIn w8 (ns ++ [x.called]) (.slice (some ⟨g1, 0, none⟩) (ns.length + 1) cap1) := by
    have h := how
    have e1 : namesC ns ++ [.string (X.ba x.called)] = namesC (ns ++ [x.called]) := by unfold namesC; rw [List.map_append]; rfl
    have e2 : ns.length + 1 = (ns ++ [x.called]).length := by rw [List.length_append]; rfl
    rw [e1, e2] at h
    rw [e2]
    exact SIn.of h
  have HS9 : Hid (SIn w9 (ns ++ [x.called]) (.slice (some ⟨g1, 0, none⟩) (ns.length + 1) cap1)) := hs8.keep fun b cs hb => hg9.block b (Go.lt_of_block hb) (fun e => by
    obtain rfl := Option.some.inj e
    rw [hN8] at hb
    injection hb with hb
    injection hb with _ hb _
    cases hb)
  have hN0 : w.heap.size ≤ N := Nat.le_of_eq HNE.out
  have hk9 : ∀ b, P b → w9.heap[b]? = w.heap[b]? := fun b hb => (hg9.block b (Nat.lt_of_lt_of_le (HPL.out b hb) hB8.size) (fun e => by have := Option.some.inj e; have := HPL.out b hb; omega)).trans (hB8.block b (HPL.out b hb))
  have HA9 : Hid (PrsIn w9 P all al) := HAL.out.keep (fun _ h => h) hk9
  have HI9 : Hid (ItsIn w9 P pr.items (.slice iad il icp)) := HI7.out.keep (fun _ h => h) (fun b hb => (hk9 b hb).trans (HB7.out.block b (HPL.out b hb)).symm)
  have cP := IH.out pr.items (ah ++ x.e.id) ah2 (ns ++ [x.called]) es fs r2 _ _ w9 Y B m0 m1 m2 al _ _ HPUT.out ⟨HM9.out, HA9.out, HP.out, HS9.out, HEL.out.1, HEL.out.2⟩ HI9.out HLF.out HLI.out (by have := HAH.out; have := HID0.out; have := HAL2.out; omega) (by rw [List.length_append, List.length_singleton]; have := HNS.out; omega)
  have HW9 := hid hw9
  clear hb8 how hw9 hB8 hN8 hg9 hs8 hN0 hk9
  go_upto_region 27 with fail
  rw [HW9.out]
  clear HW9
  obtain ⟨n0, n1, n2⟩ := row3' HN9.out
  go_wp2_with fail
  refine cP.mono ?_
  rintro en w10 (⟨es2, fs2, ev2, fv2, hr2, rfl, hm2, hf2, he2, hfl2⟩ | ⟨e, g, ev2, fv2, hr2, rfl, hg, hrow, hf2⟩)
  · obtain ⟨ead2, ecp2, rfl⟩ := own_form hm2.eo
    obtain ⟨fad2, fcp2, rfl⟩ := own_form hm2.fo
    have HM10 := hid hm2
    have HF10 := hid (HF9.out.trans hf2)
    have HR2 := hid hr2
    have HL2 := hid (And.intro he2 hfl2)
    clear hr2 hm2 hf2 he2 hfl2 cP n0 n1 n2
    go_wp2_with fail
    exact HNN.out es2 fs2 ead2 fad2 ecp2 fcp2 _ _ _ _ _ _ _ _ _ _ _ _ _ _ _ _ _ _ _ _ _ _ _ _ _ _ _ _ _ _ _ _ _ _ _ _ _ _ _ _ _ _ _ _ _ _ _ _ _ _ _ _ _ _ HR2.out HM10.out HF10.out HL2.out
  · have HF10 := hid (HF9.out.trans hf2)
    have HR2 := hid hr2
    have HG : Hid (w.heap.size ≤ g) := by have := HF9.out.size; show _ ≤ _; omega
    have HRW := hid hrow
    clear hr2 hg hrow hf2 cP n0 n1 n2
    go_wp2_with fail
    exact HRR.out e g ev2 fv2 _ _ _ _ _ _ _ _ _ _ _ _ _ _ _ _ _ _ _ _ _ _ _ _ _ _ _ _ _ _ _ _ _ _ _ _ _ _ _ _ _ _ _ _ _ _ _ _ _ _ _ _ _ _ HR2.out HG.out HRW.out HF10.out
end Go.Proofs.YteejphiklpnjhaaGreatDoor
