/- Drawn regions of put: what is appended. -/
import Derived.Test.YteejphiklpnjhaaGreatDoorOCallee
namespace Go.Proofs.YteejphiklpnjhaaGreatDoor
set_option maxRecDepth 100000
set_option maxHeartbeats 16000000
open Go.RowKit Go.Maps
open Go.Lib (hid)
theorem rowN11 {w : World} {b : Nat} {x0 x1 x2 x3 x4 x5 x6 x7 x8 x9 x10 : Value} {t : TypeId} (h : w.heap[b]? = some (.cells #[x0, x1, x2, x3, x4, x5, x6, x7, x8, x9, x10] t (0, 0))) :
  w.cell? ⟨b, 0, none⟩ = some x0 ∧ w.cell? ⟨b, 1, none⟩ = some x1 ∧ w.cell? ⟨b, 2, none⟩ = some x2 ∧ w.cell? ⟨b, 3, none⟩ = some x3 ∧ w.cell? ⟨b, 4, none⟩ = some x4 ∧ w.cell? ⟨b, 5, none⟩ = some x5 ∧ w.cell? ⟨b, 6, none⟩ = some x6 ∧ w.cell? ⟨b, 7, none⟩ = some x7 ∧ w.cell? ⟨b, 8, none⟩ = some x8 ∧ w.cell? ⟨b, 9, none⟩ = some x9 ∧ w.cell? ⟨b, 10, none⟩ = some x10 ∧ w.frozen? ⟨b, 0, none⟩ = false ∧ w.frozen? ⟨b, 1, none⟩ = false ∧ w.frozen? ⟨b, 2, none⟩ = false ∧ w.frozen? ⟨b, 3, none⟩ = false ∧ w.frozen? ⟨b, 4, none⟩ = false ∧ w.frozen? ⟨b, 5, none⟩ = false ∧ w.frozen? ⟨b, 6, none⟩ = false ∧ w.frozen? ⟨b, 7, none⟩ = false ∧ w.frozen? ⟨b, 8, none⟩ = false ∧ w.frozen? ⟨b, 9, none⟩ = false ∧ w.frozen? ⟨b, 10, none⟩ = false :=
 ⟨rowCell h 0, rowCell h 1, rowCell h 2, rowCell h 3, rowCell h 4, rowCell h 5, rowCell h 6, rowCell h 7, rowCell h 8, rowCell h 9, rowCell h 10, rowFree h 0, rowFree h 1, rowFree h 2, rowFree h 3, rowFree h 4, rowFree h 5, rowFree h 6, rowFree h 7, rowFree h 8, rowFree h 9, rowFree h 10⟩
def regAt (n : Nat) : Code → Option Code
 | .region k ops d => if k = n then some (.region k ops d) else none
 | .seq a b => match regAt n a with
   | some c => some c
   | none => regAt n b
 | .cond _ a b => match regAt n a with
   | some c => some c
   | none => regAt n b
 | .block _ c => regAt n c
 | .loop c => regAt n c
 | .scope c => regAt n c
 | _ => none
noncomputable def putReg (n : Nat) : Code := (Tryz.f44.body.bind (regAt n)).getD .skip
theorem put_r10 {Qc : Exit → Act → World → Prop} {w : World} {Y B F : Nat} {m0 m1 m2 al : Value} {es : List O.El} {fs : List O.Fl} {ead fad : Option Addr} {ecp fcp : Nat} {c1 c2 c3 c4 c5 c6 c7 c8 c9 c11 c12 c13 c14 c15 c16 c17 c18 c19 c20 c21 c22 c23 c24 c25 c26 c27 c28 c29 c30 c31 c32 c33 c34 c35 c36 c37 c38 c39 c40 c41 c42 c43 c44 c45 c46 c47 c48 c49 c50 c51 c52 c53 c54 c55 c56 c57 c58 c59 c60 c61 c62 c63 c64 c65 c66 c67 c68 c69 c70 c71 c72 c73 c74 c75 c76 c77 c78 c79 c80 c81 c82 c83 c84 c85 c86 c87 c88 c89 c90 c91 c92 c93 c94 c95 c96 c97 c98 c99 c100 c101 c102 c103 c104 c105 c106 c107 c108 c109 c110 c111 c112 c113 c114 c115 c116 c117 c118 c119 c120 c121 c122 c123 c124 c125 c126 c127 c128 c129 c130 c131 c132 c133 c134 c135 c136 c137 c138 c139 c140 c141 c142 c143 c144 c145 c146 c147 c148 c149 c150 c151 c152 c153 c154 c155 c156 c157 c158 c159 c160 c161 c162 c163 c164 c165 c166 c167 c168 c169 c170 c171 c172 c173 : Value} (hp : PM Y B m0 m1 m2 al es fs (.slice ead es.length ecp) (.slice fad fs.length fcp) w) {x : O.Fl} (hf : w.heap[F]? = some (.cells #[.string (X.ba x.id), .string (X.ba x.fr), .string (X.ba x.dst), .string ⟨#[]⟩] 53 (0, 0))) (hl : fs.length < 1000)
  (hQ : ∀ (g cap : Nat) (w' : World) (u61 u62 u63 u64 u65 u66 u67 u68 u69 u70 u71 u72 : Value), PM Y B m0 m1 m2 al (es) (fs ++ [x]) (.slice ead es.length ecp) (.slice (some ⟨g, 0, none⟩) (fs.length + 1) cap) w' → Fr w w' Y (.slice ead es.length ecp) (.slice fad fs.length fcp) (.slice ead es.length ecp) (.slice (some ⟨g, 0, none⟩) (fs.length + 1) cap) → Qc .normal ⟨(.pointer (some ⟨Y, 0, none⟩) :: c1 :: c2 :: c3 :: c4 :: c5 :: c6 :: c7 :: c8 :: c9 :: .pointer (some ⟨F, 0, none⟩) :: c11 :: c12 :: c13 :: c14 :: c15 :: c16 :: c17 :: c18 :: c19 :: c20 :: c21 :: c22 :: c23 :: c24 :: c25 :: c26 :: c27 :: c28 :: c29 :: c30 :: c31 :: c32 :: c33 :: c34 :: c35 :: c36 :: c37 :: c38 :: c39 :: c40 :: c41 :: c42 :: c43 :: c44 :: c45 :: c46 :: c47 :: c48 :: c49 :: c50 :: c51 :: c52 :: c53 :: c54 :: c55 :: c56 :: c57 :: c58 :: c59 :: c60 :: u61 :: u62 :: u63 :: u64 :: u65 :: u66 :: u67 :: u68 :: u69 :: u70 :: u71 :: u72 :: c73 :: c74 :: c75 :: c76 :: c77 :: c78 :: c79 :: c80 :: c81 :: c82 :: c83 :: c84 :: c85 :: c86 :: c87 :: c88 :: c89 :: c90 :: c91 :: c92 :: c93 :: c94 :: c95 :: c96 :: c97 :: c98 :: c99 :: c100 :: c101 :: c102 :: c103 :: c104 :: c105 :: c106 :: c107 :: c108 :: c109 :: c110 :: c111 :: c112 :: c113 :: c114 :: c115 :: c116 :: c117 :: c118 :: c119 :: c120 :: c121 :: c122 :: c123 :: c124 :: c125 :: c126 :: c127 :: c128 :: c129 :: c130 :: c131 :: c132 :: c133 :: c134 :: c135 :: c136 :: c137 :: c138 :: c139 :: c140 :: c141 :: c142 :: c143 :: c144 :: c145 :: c146 :: c147 :: c148 :: c149 :: c150 :: c151 :: c152 :: c153 :: c154 :: c155 :: c156 :: c157 :: c158 :: c159 :: c160 :: c161 :: c162 :: c163 :: c164 :: c165 :: c166 :: c167 :: c168 :: c169 :: c170 :: c171 :: c172 :: c173 :: []).toArray, []⟩ w') :
  Code.wp Tryz.prog (putReg 10) Qc ⟨(.pointer (some ⟨Y, 0, none⟩) :: c1 :: c2 :: c3 :: c4 :: c5 :: c6 :: c7 :: c8 :: c9 :: .pointer (some ⟨F, 0, none⟩) :: c11 :: c12 :: c13 :: c14 :: c15 :: c16 :: c17 :: c18 :: c19 :: c20 :: c21 :: c22 :: c23 :: c24 :: c25 :: c26 :: c27 :: c28 :: c29 :: c30 :: c31 :: c32 :: c33 :: c34 :: c35 :: c36 :: c37 :: c38 :: c39 :: c40 :: c41 :: c42 :: c43 :: c44 :: c45 :: c46 :: c47 :: c48 :: c49 :: c50 :: c51 :: c52 :: c53 :: c54 :: c55 :: c56 :: c57 :: c58 :: c59 :: c60 :: c61 :: c62 :: c63 :: c64 :: c65 :: c66 :: c67 :: c68 :: c69 :: c70 :: c71 :: c72 :: c73 :: c74 :: c75 :: c76 :: c77 :: c78 :: c79 :: c80 :: c81 :: c82 :: c83 :: c84 :: c85 :: c86 :: c87 :: c88 :: c89 :: c90 :: c91 :: c92 :: c93 :: c94 :: c95 :: c96 :: c97 :: c98 :: c99 :: c100 :: c101 :: c102 :: c103 :: c104 :: c105 :: c106 :: c107 :: c108 :: c109 :: c110 :: c111 :: c112 :: c113 :: c114 :: c115 :: c116 :: c117 :: c118 :: c119 :: c120 :: c121 :: c122 :: c123 :: c124 :: c125 :: c126 :: c127 :: c128 :: c129 :: c130 :: c131 :: c132 :: c133 :: c134 :: c135 :: c136 :: c137 :: c138 :: c139 :: c140 :: c141 :: c142 :: c143 :: c144 :: c145 :: c146 :: c147 :: c148 :: c149 :: c150 :: c151 :: c152 :: c153 :: c154 :: c155 :: c156 :: c157 :: c158 :: c159 :: c160 :: c161 :: c162 :: c163 :: c164 :: c165 :: c166 :: c167 :: c168 :: c169 :: c170 :: c171 :: c172 :: c173 :: []).toArray, []⟩ w := by
 have HP := hid hp
 have HF := hid hf
 obtain ⟨i0, hi, hz0, hz1, hzz⟩ := info_parts infoFl
 have HQ := hid (And.intro hi (And.intro hz0 (And.intro hz1 hzz)))
 obtain ⟨w12, hw12⟩ : ∃ v, (w.alloc (.cells #[.string (X.ba x.id), .string (X.ba x.fr), .string (X.ba x.dst), .string ⟨#[]⟩] 53)).drew = v := ⟨_, rfl⟩
 have hb12 : Below w.heap.size w w12 := by rw [← hw12]; exact ((Below.refl _ w).alloc (Nat.le_refl _) _).drew
 have hT12 : w12.heap[w.heap.size]? = some (.cells #[.string (X.ba x.id), .string (X.ba x.fr), .string (X.ba x.dst), .string ⟨#[]⟩] 53 (0, 0)) := by rw [← hw12]; exact heap_alloc_new w _
 have HP12 := hid (HP.out.below hb12)
 have HFR := hid (Fr.below hb12 Y (.slice ead es.length ecp) (.slice fad fs.length fcp))
 have HNW := hid (World.news_of_block hT12)
 have HOW := hid HP12.out.fo
 have HON : Hid (∀ u ∈ ([.string (X.ba x.id), .string (X.ba x.fr), .string (X.ba x.dst), .string ⟨#[]⟩] : List Value), u.oneCell' = true) := by intro u hu; simp only [List.mem_cons, List.not_mem_nil, or_false] at hu; rcases hu with rfl | rfl | rfl | rfl <;> rfl
 have HMB : Hid (fs.length + 1 ≤ maxLen ∧ (fs.length + 1) * 64 ≤ 140737488355328) := by refine ⟨by unfold maxLen; omega, by omega⟩
 have HBS : Hid (B ≤ w12.heap.size) := HP12.out.hB
 rw [← hw12] at HP12 HFR HNW HOW HBS
 clear hi hz0 hz1 hzz hw12 hb12 hT12 hp hf hl
 conv => arg 2; whnf
 refine wp_region_noPanic ?_
 refine wp_region_till (S := (fun W : World => W.heap[Y]? = some (.cells #[m0, m1, m2, .slice ead es.length ecp, .slice fad fs.length fcp, al] 103 (0, 0)) ∧ W.heap[F]? = some (.cells #[.string (X.ba x.id), .string (X.ba x.fr), .string (X.ba x.dst), .string ⟨#[]⟩] 53 (0, 0)))) 8 (by kernel_rfl) ?_
 have HS := hid (show ((fun W : World => W.heap[Y]? = some (.cells #[m0, m1, m2, .slice ead es.length ecp, .slice fad fs.length fcp, al] 103 (0, 0)) ∧ W.heap[F]? = some (.cells #[.string (X.ba x.id), .string (X.ba x.fr), .string (X.ba x.dst), .string ⟨#[]⟩] 53 (0, 0)))) _ from ⟨HP.out.x, HF.out⟩)
 refine wpTill_any 0 (oi := ?oi1) (v := ?v1) ?ho1 (by kernel_rfl) (by kernel_rfl) (by kernel_rfl) (by kernel_rfl) ?hq1 (Or.inl ⟨?hw1, ?hy1⟩) (fun _ => HS.out) ?rest1
 case ho1 => rfl
 case hw1 => rfl
 case hy1 => intro w; go_simp; try with_reducible rfl
 case hq1 => exact fun _ _ _ h => h
 refine wpTill_any 1 (oi := ?oi2) (v := ?v2) ?ho2 (by kernel_rfl) (by kernel_rfl) (by kernel_rfl) (by kernel_rfl) ?hq2 (Or.inl ⟨?hw2, ?hy2⟩) (fun _ => HS.out) ?rest2
 case ho2 => rfl
 case hw2 => rfl
 case hy2 => intro w; go_simp; try with_reducible rfl
 case hq2 => exact fun _ _ _ h => h
 refine wpTill_any 2 (oi := ?oi3) (v := ?v3) ?ho3 (by kernel_rfl) (by kernel_rfl) (by kernel_rfl) (by kernel_rfl) ?hq3 (Or.inl ⟨?hw3, ?hy3⟩) (fun _ => HS.out) ?rest3
 case ho3 => rfl
 case hw3 => rfl
 case hy3 => intro w; go_simp; try with_reducible rfl
 case hq3 => exact fun _ _ _ h => h
 refine wpTill_any 3 (oi := ?oi4) (v := ?v4) ?ho4 (by kernel_rfl) (by kernel_rfl) (by kernel_rfl) (by kernel_rfl) ?hq4 (Or.inl ⟨?hw4, ?hy4⟩) (fun _ => HS.out) ?rest4
 case ho4 => rfl
 case hw4 => rfl
 case hy4 => intro w; go_simp; try with_reducible rfl
 case hq4 => exact fun _ _ _ h => h
 refine wpTill_any 4 (oi := ?oi5) (v := ?v5) ?ho5 (by kernel_rfl) (by kernel_rfl) (by kernel_rfl) (by kernel_rfl) ?hq5 (Or.inl ⟨?hw5, ?hy5⟩) (fun _ => HS.out) ?rest5
 case ho5 => rfl
 case hw5 => rfl
 case hy5 => intro w; go_simp; try with_reducible rfl
 case hq5 => exact fun _ _ _ h => h
 refine wpTill_load 5 [5, 8] (oi := ?oi6) (v := ?v6) ?ho6 (by kernel_rfl) (by kernel_rfl) (by kernel_rfl) (by kernel_rfl) ?hq6 (Or.inl ⟨?hw6, ?hy6⟩) HS.out ?rest6
 case ho6 => rfl
 case hw6 => rfl
 case hy6 =>
  intro w hSw
  obtain ⟨x0, x1, x2, x3, x4, x5⟩ := rowN6 hSw.1
  clear hSw
  go_simp
  try with_reducible rfl
 case hq6 => exact fun _ _ _ h => h
 refine wpTill_load 6 [6, 7, 8] (oi := ?oi7) (v := ?v7) ?ho7 (by kernel_rfl) (by kernel_rfl) (by kernel_rfl) (by kernel_rfl) ?hq7 (Or.inl ⟨?hw7, ?hy7⟩) HS.out ?rest7
 case ho7 => rfl
 case hw7 => rfl
 case hy7 =>
  intro w hSw
  obtain ⟨z0, z1, z2, z3, -⟩ := rowN4 hSw.2
  clear hSw
  go_simp
  try with_reducible rfl
 case hq7 => exact fun _ _ _ h => h
 refine wpTill_ready (rs := [7]) (by kernel_rfl) (by decide) ?_
 refine AllTill.consH (o := ?oi8) ?ho8 (fun K hK => ?step8) ?more8
 case ho8 => rfl
 case step8 =>
  go_simp
  refine hK.out _ _ (fun _ => ⟨(Go.Lib.alloc_old _ _ _ (Go.lt_of_block HP.out.x)).trans HP.out.x, (Go.Lib.alloc_old _ _ _ (Go.lt_of_block HF.out)).trans HF.out⟩) (fun hHeld => ?_)
  have HS8 := hid (hHeld (by kernel_rfl))
  clear hHeld hK K
  refine wpTill_ready (rs := [8]) (by kernel_rfl) (by decide) ?_
  refine AllTill.consH (o := ?oi9) ?ho9 (fun K hK => ?step9) ?more9
  case ho9 => rfl
  case step9 =>
   refine step_append_lies _ (by rfl) (.tmp 66) (.tmp 68) 28 (by rfl) B 53 i0 _ 4 64 Tryz.underlying28 HQ.out.1 HQ.out.2.1 HQ.out.2.2.1 HQ.out.2.2.2 rfl (by decide) (.slice fad fs.length fcp) fs.length (flsC fs) (by rfl) HOW.out ⟨w.heap.size, 0, none⟩ 1 1 [.string (X.ba x.id), .string (X.ba x.fr), .string (X.ba x.dst), .string ⟨#[]⟩] (by rfl) rfl HNW.out HON.out (by decide) HMB.out.1 HMB.out.2 HBS.out _ rfl ?_
   intro g1 cap1 w13 hown1 hgrow hat hlt1
   obtain ⟨hp13, hf13⟩ := HP12.out.flow (x := x) hown1 hgrow (hat.imp (fun h => h) (fun h => h))
   have HP13 := hid hp13
   have HF13 := hid (HFR.out.trans hf13)
   have HX13 : Hid (w13.heap[Y]? = some (.cells #[m0, m1, m2, .slice ead es.length ecp, .slice fad fs.length fcp, al] 103 (0, 0))) := row_far HP12.out.x hgrow (World.ownsRow.lt HOW.out) HP12.out.hx
   clear hown1 hgrow hat hlt1 hp13 hf13
   obtain ⟨y0, y1, y2, y3, y4, y5⟩ := rowN6 HX13.out
   have yf3 := Lib.frozen_of_heap HX13.out 3
   have yf4 := Lib.frozen_of_heap HX13.out 4
   try dsimp only
   refine hK.out _ _ (fun hk => by cases (show true = false from hk)) (fun _ => ?_)
   clear hK K
   refine wpTill_any 9 (oi := ?oi10) (v := ?v10) ?ho10 (by kernel_rfl) (by kernel_rfl) (by kernel_rfl) (by kernel_rfl) ?hq10 (Or.inl ⟨?hw10, ?hy10⟩) (fun hk => by cases (show true = false from hk)) ?rest10
   case ho10 => rfl
   case hw10 => rfl
   case hy10 => intro w; go_simp; try with_reducible rfl
   case hq10 => exact fun _ _ _ h => h
   refine wpTill_any 10 (oi := ?oi11) (v := ?v11) ?ho11 (by kernel_rfl) (by kernel_rfl) (by kernel_rfl) (by kernel_rfl) ?hq11 (Or.inl ⟨?hw11, ?hy11⟩) (fun hk => by cases (show true = false from hk)) ?rest11
   case ho11 => rfl
   case hw11 => rfl
   case hy11 => intro w; go_simp; try with_reducible rfl
   case hq11 => exact fun _ _ _ h => h
   refine wpTill_any 11 (oi := ?oi12) (v := ?v12) ?ho12 (by kernel_rfl) (by kernel_rfl) (by kernel_rfl) (by kernel_rfl) ?hq12 (Or.inl ⟨?hw12, ?hy12⟩) (fun hk => by cases (show true = false from hk)) ?rest12
   case ho12 => rfl
   case hw12 => rfl
   case hy12 => intro w; go_simp; try with_reducible rfl
   case hq12 => exact fun _ _ _ h => h
   refine wpTill_ready (rs := [12]) (by kernel_rfl) (by decide) ?_
   refine AllTill.consH (o := ?oi13) ?ho13 (fun K hK => ?step13) ?more13
   case ho13 => rfl
   case step13 =>
    go_simp
    refine hK.out _ _ (fun hk => by cases (show true = false from hk)) (fun _ => ?_)
    clear hK K
    refine wpTill_done (by kernel_rfl) ?_ _
    exact hQ _ _ _ _ _ _ _ _ _ _ _ _ _ _ _ HP13.out HF13.out
   case more13 =>
    exact AllTill.nil
  case more9 =>
   exact AllTill.nil
 case more8 =>
  exact AllTill.nil
theorem put_r19 {Qc : Exit → Act → World → Prop} {w : World} {Y B F : Nat} {m0 m1 m2 al : Value} {es : List O.El} {fs : List O.Fl} {ead fad : Option Addr} {ecp fcp : Nat} {c1 c2 c3 c4 c5 c6 c7 c8 c9 c10 c12 c13 c14 c15 c16 c17 c18 c19 c20 c21 c22 c23 c24 c25 c26 c27 c28 c29 c30 c31 c32 c33 c34 c35 c36 c37 c38 c39 c40 c41 c42 c43 c44 c45 c46 c47 c48 c49 c50 c51 c52 c53 c54 c55 c56 c57 c58 c59 c60 c61 c62 c63 c64 c65 c66 c67 c68 c69 c70 c71 c72 c73 c74 c75 c76 c77 c78 c79 c80 c81 c82 c83 c84 c85 c86 c87 c88 c89 c90 c91 c92 c93 c94 c95 c96 c97 c98 c99 c100 c101 c102 c103 c104 c105 c106 c107 c108 c109 c110 c111 c112 c113 c114 c115 c116 c117 c118 c119 c120 c121 c122 c123 c124 c125 c126 c127 c128 c129 c130 c131 c132 c133 c134 c135 c136 c137 c138 c139 c140 c141 c142 c143 c144 c145 c146 c147 c148 c149 c150 c151 c152 c153 c154 c155 c156 c157 c158 c159 c160 c161 c162 c163 c164 c165 c166 c167 c168 c169 c170 c171 c172 c173 : Value} (hp : PM Y B m0 m1 m2 al es fs (.slice ead es.length ecp) (.slice fad fs.length fcp) w) {x : O.El} (hf : w.heap[F]? = some (.cells #[.string (X.ba x.id), .string (X.ba x.nm), .int .u8 x.kind, .string (X.ba x.inn), .string (X.ba x.dflt), .string (X.ba x.att), .int .u8 0, .string ⟨#[]⟩, .string ⟨#[]⟩, .int .i64 0, .int .i64 x.tries] 36 (0, 0))) (hl : es.length < 1000)
  (hQ : ∀ (g cap : Nat) (w' : World) (u113 u114 u115 u116 u117 u118 u119 u120 u121 u122 u123 u124 : Value), PM Y B m0 m1 m2 al (es ++ [x]) (fs) (.slice (some ⟨g, 0, none⟩) (es.length + 1) cap) (.slice fad fs.length fcp) w' → Fr w w' Y (.slice ead es.length ecp) (.slice fad fs.length fcp) (.slice (some ⟨g, 0, none⟩) (es.length + 1) cap) (.slice fad fs.length fcp) → Qc .normal ⟨(.pointer (some ⟨Y, 0, none⟩) :: c1 :: c2 :: c3 :: c4 :: c5 :: c6 :: c7 :: c8 :: c9 :: c10 :: .pointer (some ⟨F, 0, none⟩) :: c12 :: c13 :: c14 :: c15 :: c16 :: c17 :: c18 :: c19 :: c20 :: c21 :: c22 :: c23 :: c24 :: c25 :: c26 :: c27 :: c28 :: c29 :: c30 :: c31 :: c32 :: c33 :: c34 :: c35 :: c36 :: c37 :: c38 :: c39 :: c40 :: c41 :: c42 :: c43 :: c44 :: c45 :: c46 :: c47 :: c48 :: c49 :: c50 :: c51 :: c52 :: c53 :: c54 :: c55 :: c56 :: c57 :: c58 :: c59 :: c60 :: c61 :: c62 :: c63 :: c64 :: c65 :: c66 :: c67 :: c68 :: c69 :: c70 :: c71 :: c72 :: c73 :: c74 :: c75 :: c76 :: c77 :: c78 :: c79 :: c80 :: c81 :: c82 :: c83 :: c84 :: c85 :: c86 :: c87 :: c88 :: c89 :: c90 :: c91 :: c92 :: c93 :: c94 :: c95 :: c96 :: c97 :: c98 :: c99 :: c100 :: c101 :: c102 :: c103 :: c104 :: c105 :: c106 :: c107 :: c108 :: c109 :: c110 :: c111 :: c112 :: u113 :: u114 :: u115 :: u116 :: u117 :: u118 :: u119 :: u120 :: u121 :: u122 :: u123 :: u124 :: c125 :: c126 :: c127 :: c128 :: c129 :: c130 :: c131 :: c132 :: c133 :: c134 :: c135 :: c136 :: c137 :: c138 :: c139 :: c140 :: c141 :: c142 :: c143 :: c144 :: c145 :: c146 :: c147 :: c148 :: c149 :: c150 :: c151 :: c152 :: c153 :: c154 :: c155 :: c156 :: c157 :: c158 :: c159 :: c160 :: c161 :: c162 :: c163 :: c164 :: c165 :: c166 :: c167 :: c168 :: c169 :: c170 :: c171 :: c172 :: c173 :: []).toArray, []⟩ w') :
  Code.wp Tryz.prog (putReg 19) Qc ⟨(.pointer (some ⟨Y, 0, none⟩) :: c1 :: c2 :: c3 :: c4 :: c5 :: c6 :: c7 :: c8 :: c9 :: c10 :: .pointer (some ⟨F, 0, none⟩) :: c12 :: c13 :: c14 :: c15 :: c16 :: c17 :: c18 :: c19 :: c20 :: c21 :: c22 :: c23 :: c24 :: c25 :: c26 :: c27 :: c28 :: c29 :: c30 :: c31 :: c32 :: c33 :: c34 :: c35 :: c36 :: c37 :: c38 :: c39 :: c40 :: c41 :: c42 :: c43 :: c44 :: c45 :: c46 :: c47 :: c48 :: c49 :: c50 :: c51 :: c52 :: c53 :: c54 :: c55 :: c56 :: c57 :: c58 :: c59 :: c60 :: c61 :: c62 :: c63 :: c64 :: c65 :: c66 :: c67 :: c68 :: c69 :: c70 :: c71 :: c72 :: c73 :: c74 :: c75 :: c76 :: c77 :: c78 :: c79 :: c80 :: c81 :: c82 :: c83 :: c84 :: c85 :: c86 :: c87 :: c88 :: c89 :: c90 :: c91 :: c92 :: c93 :: c94 :: c95 :: c96 :: c97 :: c98 :: c99 :: c100 :: c101 :: c102 :: c103 :: c104 :: c105 :: c106 :: c107 :: c108 :: c109 :: c110 :: c111 :: c112 :: c113 :: c114 :: c115 :: c116 :: c117 :: c118 :: c119 :: c120 :: c121 :: c122 :: c123 :: c124 :: c125 :: c126 :: c127 :: c128 :: c129 :: c130 :: c131 :: c132 :: c133 :: c134 :: c135 :: c136 :: c137 :: c138 :: c139 :: c140 :: c141 :: c142 :: c143 :: c144 :: c145 :: c146 :: c147 :: c148 :: c149 :: c150 :: c151 :: c152 :: c153 :: c154 :: c155 :: c156 :: c157 :: c158 :: c159 :: c160 :: c161 :: c162 :: c163 :: c164 :: c165 :: c166 :: c167 :: c168 :: c169 :: c170 :: c171 :: c172 :: c173 :: []).toArray, []⟩ w := by
 have HP := hid hp
 have HF := hid hf
 obtain ⟨i0, hi, hz0, hz1, hzz⟩ := info_parts infoEl
 have HQ := hid (And.intro hi (And.intro hz0 (And.intro hz1 hzz)))
 obtain ⟨w12, hw12⟩ : ∃ v, (w.alloc (.cells #[.string (X.ba x.id), .string (X.ba x.nm), .int .u8 x.kind, .string (X.ba x.inn), .string (X.ba x.dflt), .string (X.ba x.att), .int .u8 0, .string ⟨#[]⟩, .string ⟨#[]⟩, .int .i64 0, .int .i64 x.tries] 36)).drew = v := ⟨_, rfl⟩
 have hb12 : Below w.heap.size w w12 := by rw [← hw12]; exact ((Below.refl _ w).alloc (Nat.le_refl _) _).drew
 have hT12 : w12.heap[w.heap.size]? = some (.cells #[.string (X.ba x.id), .string (X.ba x.nm), .int .u8 x.kind, .string (X.ba x.inn), .string (X.ba x.dflt), .string (X.ba x.att), .int .u8 0, .string ⟨#[]⟩, .string ⟨#[]⟩, .int .i64 0, .int .i64 x.tries] 36 (0, 0)) := by rw [← hw12]; exact heap_alloc_new w _
 have HP12 := hid (HP.out.below hb12)
 have HFR := hid (Fr.below hb12 Y (.slice ead es.length ecp) (.slice fad fs.length fcp))
 have HNW := hid (World.news_of_block hT12)
 have HOW := hid HP12.out.eo
 have HON : Hid (∀ u ∈ ([.string (X.ba x.id), .string (X.ba x.nm), .int .u8 x.kind, .string (X.ba x.inn), .string (X.ba x.dflt), .string (X.ba x.att), .int .u8 0, .string ⟨#[]⟩, .string ⟨#[]⟩, .int .i64 0, .int .i64 x.tries] : List Value), u.oneCell' = true) := by intro u hu; simp only [List.mem_cons, List.not_mem_nil, or_false] at hu; rcases hu with rfl | rfl | rfl | rfl | rfl | rfl | rfl | rfl | rfl | rfl | rfl <;> rfl
 have HMB : Hid (es.length + 1 ≤ maxLen ∧ (es.length + 1) * 144 ≤ 140737488355328) := by refine ⟨by unfold maxLen; omega, by omega⟩
 have HBS : Hid (B ≤ w12.heap.size) := HP12.out.hB
 rw [← hw12] at HP12 HFR HNW HOW HBS
 clear hi hz0 hz1 hzz hw12 hb12 hT12 hp hf hl
 conv => arg 2; whnf
 refine wp_region_noPanic ?_
 refine wp_region_till (S := (fun W : World => W.heap[Y]? = some (.cells #[m0, m1, m2, .slice ead es.length ecp, .slice fad fs.length fcp, al] 103 (0, 0)) ∧ W.heap[F]? = some (.cells #[.string (X.ba x.id), .string (X.ba x.nm), .int .u8 x.kind, .string (X.ba x.inn), .string (X.ba x.dflt), .string (X.ba x.att), .int .u8 0, .string ⟨#[]⟩, .string ⟨#[]⟩, .int .i64 0, .int .i64 x.tries] 36 (0, 0)))) 8 (by kernel_rfl) ?_
 have HS := hid (show ((fun W : World => W.heap[Y]? = some (.cells #[m0, m1, m2, .slice ead es.length ecp, .slice fad fs.length fcp, al] 103 (0, 0)) ∧ W.heap[F]? = some (.cells #[.string (X.ba x.id), .string (X.ba x.nm), .int .u8 x.kind, .string (X.ba x.inn), .string (X.ba x.dflt), .string (X.ba x.att), .int .u8 0, .string ⟨#[]⟩, .string ⟨#[]⟩, .int .i64 0, .int .i64 x.tries] 36 (0, 0)))) _ from ⟨HP.out.x, HF.out⟩)
 refine wpTill_any 0 (oi := ?oi14) (v := ?v14) ?ho14 (by kernel_rfl) (by kernel_rfl) (by kernel_rfl) (by kernel_rfl) ?hq14 (Or.inl ⟨?hw14, ?hy14⟩) (fun _ => HS.out) ?rest14
 case ho14 => rfl
 case hw14 => rfl
 case hy14 => intro w; go_simp; try with_reducible rfl
 case hq14 => exact fun _ _ _ h => h
 refine wpTill_any 1 (oi := ?oi15) (v := ?v15) ?ho15 (by kernel_rfl) (by kernel_rfl) (by kernel_rfl) (by kernel_rfl) ?hq15 (Or.inl ⟨?hw15, ?hy15⟩) (fun _ => HS.out) ?rest15
 case ho15 => rfl
 case hw15 => rfl
 case hy15 => intro w; go_simp; try with_reducible rfl
 case hq15 => exact fun _ _ _ h => h
 refine wpTill_any 2 (oi := ?oi16) (v := ?v16) ?ho16 (by kernel_rfl) (by kernel_rfl) (by kernel_rfl) (by kernel_rfl) ?hq16 (Or.inl ⟨?hw16, ?hy16⟩) (fun _ => HS.out) ?rest16
 case ho16 => rfl
 case hw16 => rfl
 case hy16 => intro w; go_simp; try with_reducible rfl
 case hq16 => exact fun _ _ _ h => h
 refine wpTill_any 3 (oi := ?oi17) (v := ?v17) ?ho17 (by kernel_rfl) (by kernel_rfl) (by kernel_rfl) (by kernel_rfl) ?hq17 (Or.inl ⟨?hw17, ?hy17⟩) (fun _ => HS.out) ?rest17
 case ho17 => rfl
 case hw17 => rfl
 case hy17 => intro w; go_simp; try with_reducible rfl
 case hq17 => exact fun _ _ _ h => h
 refine wpTill_any 4 (oi := ?oi18) (v := ?v18) ?ho18 (by kernel_rfl) (by kernel_rfl) (by kernel_rfl) (by kernel_rfl) ?hq18 (Or.inl ⟨?hw18, ?hy18⟩) (fun _ => HS.out) ?rest18
 case ho18 => rfl
 case hw18 => rfl
 case hy18 => intro w; go_simp; try with_reducible rfl
 case hq18 => exact fun _ _ _ h => h
 refine wpTill_load 5 [5, 8] (oi := ?oi19) (v := ?v19) ?ho19 (by kernel_rfl) (by kernel_rfl) (by kernel_rfl) (by kernel_rfl) ?hq19 (Or.inl ⟨?hw19, ?hy19⟩) HS.out ?rest19
 case ho19 => rfl
 case hw19 => rfl
 case hy19 =>
  intro w hSw
  obtain ⟨x0, x1, x2, x3, x4, x5⟩ := rowN6 hSw.1
  clear hSw
  go_simp
  try with_reducible rfl
 case hq19 => exact fun _ _ _ h => h
 refine wpTill_load 6 [6, 7, 8] (oi := ?oi20) (v := ?v20) ?ho20 (by kernel_rfl) (by kernel_rfl) (by kernel_rfl) (by kernel_rfl) ?hq20 (Or.inl ⟨?hw20, ?hy20⟩) HS.out ?rest20
 case ho20 => rfl
 case hw20 => rfl
 case hy20 =>
  intro w hSw
  obtain ⟨z0, z1, z2, z3, z4, z5, z6, z7, z8, z9, z10, -⟩ := rowN11 hSw.2
  clear hSw
  go_simp
  try with_reducible rfl
 case hq20 => exact fun _ _ _ h => h
 refine wpTill_ready (rs := [7]) (by kernel_rfl) (by decide) ?_
 refine AllTill.consH (o := ?oi21) ?ho21 (fun K hK => ?step21) ?more21
 case ho21 => rfl
 case step21 =>
  go_simp
  refine hK.out _ _ (fun _ => ⟨(Go.Lib.alloc_old _ _ _ (Go.lt_of_block HP.out.x)).trans HP.out.x, (Go.Lib.alloc_old _ _ _ (Go.lt_of_block HF.out)).trans HF.out⟩) (fun hHeld => ?_)
  have HS21 := hid (hHeld (by kernel_rfl))
  clear hHeld hK K
  refine wpTill_ready (rs := [8]) (by kernel_rfl) (by decide) ?_
  refine AllTill.consH (o := ?oi22) ?ho22 (fun K hK => ?step22) ?more22
  case ho22 => rfl
  case step22 =>
   refine step_append_lies _ (by rfl) (.tmp 118) (.tmp 120) 27 (by rfl) B 36 i0 _ 11 144 Tryz.underlying27 HQ.out.1 HQ.out.2.1 HQ.out.2.2.1 HQ.out.2.2.2 rfl (by decide) (.slice ead es.length ecp) es.length (elsC es) (by rfl) HOW.out ⟨w.heap.size, 0, none⟩ 1 1 [.string (X.ba x.id), .string (X.ba x.nm), .int .u8 x.kind, .string (X.ba x.inn), .string (X.ba x.dflt), .string (X.ba x.att), .int .u8 0, .string ⟨#[]⟩, .string ⟨#[]⟩, .int .i64 0, .int .i64 x.tries] (by rfl) rfl HNW.out HON.out (by decide) HMB.out.1 HMB.out.2 HBS.out _ rfl ?_
   intro g1 cap1 w13 hown1 hgrow hat hlt1
   obtain ⟨hp13, hf13⟩ := HP12.out.elem (x := x) hown1 hgrow (hat.imp (fun h => h) (fun h => h))
   have HP13 := hid hp13
   have HF13 := hid (HFR.out.trans hf13)
   have HX13 : Hid (w13.heap[Y]? = some (.cells #[m0, m1, m2, .slice ead es.length ecp, .slice fad fs.length fcp, al] 103 (0, 0))) := row_far HP12.out.x hgrow (World.ownsRow.lt HOW.out) HP12.out.hx
   clear hown1 hgrow hat hlt1 hp13 hf13
   obtain ⟨y0, y1, y2, y3, y4, y5⟩ := rowN6 HX13.out
   have yf3 := Lib.frozen_of_heap HX13.out 3
   have yf4 := Lib.frozen_of_heap HX13.out 4
   try dsimp only
   refine hK.out _ _ (fun hk => by cases (show true = false from hk)) (fun _ => ?_)
   clear hK K
   refine wpTill_any 9 (oi := ?oi23) (v := ?v23) ?ho23 (by kernel_rfl) (by kernel_rfl) (by kernel_rfl) (by kernel_rfl) ?hq23 (Or.inl ⟨?hw23, ?hy23⟩) (fun hk => by cases (show true = false from hk)) ?rest23
   case ho23 => rfl
   case hw23 => rfl
   case hy23 => intro w; go_simp; try with_reducible rfl
   case hq23 => exact fun _ _ _ h => h
   refine wpTill_any 10 (oi := ?oi24) (v := ?v24) ?ho24 (by kernel_rfl) (by kernel_rfl) (by kernel_rfl) (by kernel_rfl) ?hq24 (Or.inl ⟨?hw24, ?hy24⟩) (fun hk => by cases (show true = false from hk)) ?rest24
   case ho24 => rfl
   case hw24 => rfl
   case hy24 => intro w; go_simp; try with_reducible rfl
   case hq24 => exact fun _ _ _ h => h
   refine wpTill_any 11 (oi := ?oi25) (v := ?v25) ?ho25 (by kernel_rfl) (by kernel_rfl) (by kernel_rfl) (by kernel_rfl) ?hq25 (Or.inl ⟨?hw25, ?hy25⟩) (fun hk => by cases (show true = false from hk)) ?rest25
   case ho25 => rfl
   case hw25 => rfl
   case hy25 => intro w; go_simp; try with_reducible rfl
   case hq25 => exact fun _ _ _ h => h
   refine wpTill_ready (rs := [12]) (by kernel_rfl) (by decide) ?_
   refine AllTill.consH (o := ?oi26) ?ho26 (fun K hK => ?step26) ?more26
   case ho26 => rfl
   case step26 =>
    go_simp
    refine hK.out _ _ (fun hk => by cases (show true = false from hk)) (fun _ => ?_)
    clear hK K
    refine wpTill_done (by kernel_rfl) ?_ _
    exact hQ _ _ _ _ _ _ _ _ _ _ _ _ _ _ _ HP13.out HF13.out
   case more26 =>
    exact AllTill.nil
  case more22 =>
   exact AllTill.nil
 case more21 =>
  exact AllTill.nil
end Go.Proofs.YteejphiklpnjhaaGreatDoor
