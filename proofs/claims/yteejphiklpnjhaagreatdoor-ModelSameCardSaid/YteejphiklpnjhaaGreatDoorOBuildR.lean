/- build's drawn regions: a process is read, and appended. -/
import Derived.Test.YteejphiklpnjhaaGreatDoorOBuildH
namespace Go.Proofs.YteejphiklpnjhaaGreatDoor
set_option maxRecDepth 100000
set_option maxHeartbeats 16000000
open Go.RowKit Go.Maps
open Go.Lib (hid)
noncomputable def buildReg (n : Nat) : Code := (Tryz.f29.body.bind (regAt n)).getD .skip
theorem build_r16 {Qc : Exit → Act → World → Prop} {W w : World} {H X0 R : Nat} {cs pc : List Value} {ps : List O.Pr} {aad vad iad : Option Addr} {acp vl vcp il icp : Nat} {p : O.Pr} {c0 c1 c2 c3 c4 c5 c6 c8 c9 c11 c12 c13 c14 c15 c16 c17 c18 c19 c20 c21 c22 c23 c24 c25 c26 c27 c28 c29 c30 c31 c32 c33 c34 c35 c36 c37 c38 c39 c40 c41 c42 c43 c44 c45 c46 c47 c48 c49 c50 c51 c52 c53 c54 c55 c56 c57 c58 c59 c60 c61 c62 c63 c64 c65 c66 c67 c68 c69 c70 c71 c72 c73 c74 c75 c76 c77 c78 c79 c80 c81 c82 c83 c84 c85 c86 c87 c88 c89 c90 c91 c92 c93 c94 c95 c96 c97 c98 c99 c100 c101 c102 c103 c104 c105 c106 c107 c108 c109 c110 c111 c112 c113 c114 c115 c116 c117 c118 c119 c120 c121 c122 : Value} (hp : QL W H cs X0 ps (.slice aad ps.length acp) pc w) (hf : w.heap[R]? = some (.cells #[.string (X.ba p.id), .string (X.ba p.nm), .slice vad vl vcp, .slice iad il icp] 106 (0, 0))) (hph : PrHas w (OwnG w (X0 + 1) [tFlow, tItem, tBind]) p [.string (X.ba p.id), .string (X.ba p.nm), .slice vad vl vcp, .slice iad il icp]) (hl : ps.length < 100000)
  (hQ : ∀ (g cap : Nat) (w' : World) (u69 u70 u71 u72 u73 u74 u75 u76 u77 u78 : Value), QL W H cs X0 (ps ++ [p]) (.slice (some ⟨g, 0, none⟩) (ps.length + 1) cap) (pc ++ [.string (X.ba p.id), .string (X.ba p.nm), .slice vad vl vcp, .slice iad il icp]) w' → Qc .normal ⟨(c0 :: c1 :: c2 :: c3 :: c4 :: c5 :: c6 :: .pointer (some ⟨X0, 0, none⟩) :: c8 :: c9 :: .pointer (some ⟨R, 0, none⟩) :: c11 :: c12 :: c13 :: c14 :: c15 :: c16 :: c17 :: c18 :: c19 :: c20 :: c21 :: c22 :: c23 :: c24 :: c25 :: c26 :: c27 :: c28 :: c29 :: c30 :: c31 :: c32 :: c33 :: c34 :: c35 :: c36 :: c37 :: c38 :: c39 :: c40 :: c41 :: c42 :: c43 :: c44 :: c45 :: c46 :: c47 :: c48 :: c49 :: c50 :: c51 :: c52 :: c53 :: c54 :: c55 :: c56 :: c57 :: c58 :: c59 :: c60 :: c61 :: c62 :: c63 :: c64 :: c65 :: c66 :: c67 :: c68 :: u69 :: u70 :: u71 :: u72 :: u73 :: u74 :: u75 :: u76 :: u77 :: u78 :: c79 :: c80 :: c81 :: c82 :: c83 :: c84 :: c85 :: c86 :: c87 :: c88 :: c89 :: c90 :: c91 :: c92 :: c93 :: c94 :: c95 :: c96 :: c97 :: c98 :: c99 :: c100 :: c101 :: c102 :: c103 :: c104 :: c105 :: c106 :: c107 :: c108 :: c109 :: c110 :: c111 :: c112 :: c113 :: c114 :: c115 :: c116 :: c117 :: c118 :: c119 :: c120 :: c121 :: c122 :: []).toArray, []⟩ w') :
  Code.wp Tryz.prog (buildReg 16) Qc ⟨(c0 :: c1 :: c2 :: c3 :: c4 :: c5 :: c6 :: .pointer (some ⟨X0, 0, none⟩) :: c8 :: c9 :: .pointer (some ⟨R, 0, none⟩) :: c11 :: c12 :: c13 :: c14 :: c15 :: c16 :: c17 :: c18 :: c19 :: c20 :: c21 :: c22 :: c23 :: c24 :: c25 :: c26 :: c27 :: c28 :: c29 :: c30 :: c31 :: c32 :: c33 :: c34 :: c35 :: c36 :: c37 :: c38 :: c39 :: c40 :: c41 :: c42 :: c43 :: c44 :: c45 :: c46 :: c47 :: c48 :: c49 :: c50 :: c51 :: c52 :: c53 :: c54 :: c55 :: c56 :: c57 :: c58 :: c59 :: c60 :: c61 :: c62 :: c63 :: c64 :: c65 :: c66 :: c67 :: c68 :: c69 :: c70 :: c71 :: c72 :: c73 :: c74 :: c75 :: c76 :: c77 :: c78 :: c79 :: c80 :: c81 :: c82 :: c83 :: c84 :: c85 :: c86 :: c87 :: c88 :: c89 :: c90 :: c91 :: c92 :: c93 :: c94 :: c95 :: c96 :: c97 :: c98 :: c99 :: c100 :: c101 :: c102 :: c103 :: c104 :: c105 :: c106 :: c107 :: c108 :: c109 :: c110 :: c111 :: c112 :: c113 :: c114 :: c115 :: c116 :: c117 :: c118 :: c119 :: c120 :: c121 :: c122 :: []).toArray, []⟩ w := by
 have HP := hid hp
 have HF := hid hf
 obtain ⟨i0, hi, hz0, hz1, hzz⟩ := info_parts infoProc
 have HQ := hid (And.intro hi (And.intro hz0 (And.intro hz1 hzz)))
 obtain ⟨w12, hw12⟩ : ∃ v, (w.alloc (.cells #[.string (X.ba p.id), .string (X.ba p.nm), .slice vad vl vcp, .slice iad il icp] 106)).drew = v := ⟨_, rfl⟩
 have hb12 : Below w.heap.size w w12 := by rw [← hw12]; exact ((Below.refl _ w).alloc (Nat.le_refl _) _).drew
 have hT12 : w12.heap[w.heap.size]? = some (.cells #[.string (X.ba p.id), .string (X.ba p.nm), .slice vad vl vcp, .slice iad il icp] 106 (0, 0)) := by rw [← hw12]; exact heap_alloc_new w _
 have HP12 := hid (HP.out.below hb12)
 have HPH : Hid (PrHas w12 (OwnG w12 (X0 + 1) [tFlow, tItem, tBind]) p [.string (X.ba p.id), .string (X.ba p.nm), .slice vad vl vcp, .slice iad il icp]) := hph.keep (fun b hb => (hb.keep (KeepG.below hb12 _)).1) (fun b hb => (hb.keep (KeepG.below hb12 _)).2)
 have HNW := hid (World.news_of_block hT12)
 have HOW := hid HP12.out.ao
 have HON : Hid (∀ u ∈ ([.string (X.ba p.id), .string (X.ba p.nm), .slice vad vl vcp, .slice iad il icp] : List Value), u.oneCell' = true) := by intro u hu; simp only [List.mem_cons, List.not_mem_nil, or_false] at hu; rcases hu with rfl | rfl | rfl | rfl <;> rfl
 have HMB : Hid (ps.length + 1 ≤ maxLen ∧ (ps.length + 1) * 80 ≤ 140737488355328) := by refine ⟨by unfold maxLen; omega, by omega⟩
 have HBS : Hid (X0 + 1 ≤ w12.heap.size) := HP12.out.sz
 rw [← hw12] at HP12 HPH HNW HOW HBS
 clear hi hz0 hz1 hzz hw12 hb12 hT12 hp hf hph hl
 conv => arg 2; whnf
 refine wp_region_noPanic ?_
 refine wp_region_till (S := (fun W : World => W.heap[X0]? = some (.cells #[.string ⟨#[]⟩, .string ⟨#[]⟩, .slice none 0 0, .slice none 0 0, .slice none 0 0, .slice aad ps.length acp] 103 (0, 0)) ∧ W.heap[R]? = some (.cells #[.string (X.ba p.id), .string (X.ba p.nm), .slice vad vl vcp, .slice iad il icp] 106 (0, 0)))) 7 (by kernel_rfl) ?_
 have HS := hid (show ((fun W : World => W.heap[X0]? = some (.cells #[.string ⟨#[]⟩, .string ⟨#[]⟩, .slice none 0 0, .slice none 0 0, .slice none 0 0, .slice aad ps.length acp] 103 (0, 0)) ∧ W.heap[R]? = some (.cells #[.string (X.ba p.id), .string (X.ba p.nm), .slice vad vl vcp, .slice iad il icp] 106 (0, 0)))) _ from ⟨HP.out.x, HF.out⟩)
 refine wpTill_any 0 (oi := ?oi1) (v := ?v1) ?ho1 (by kernel_rfl) (by kernel_rfl) (by kernel_rfl) (by kernel_rfl) ?hq1 (Or.inl ⟨?hw1, ?hy1⟩) (fun _ => HS.out) ?rest1
 case ho1 => rfl
 case hw1 => rfl
 case hy1 => intro w; go_simp; try with_reducible rfl
 case hq1 => exact fun _ _ _ h => h
 refine wpTill_any 1 (oi := ?oi2) (v := ?v2) ?ho2 (by kernel_rfl) (by kernel_rfl) (by kernel_rfl) (by kernel_rfl) ?hq2 (Or.inl ⟨?hw2, ?hy2⟩) (fun _ => HS.out) ?rest2
 case ho2 => rfl
 case hw2 => rfl
 case hy2 => intro w; go_simp; try with_reducible rfl
 case hq2 => exact fun _ _ _ h => h
 refine wpTill_any 2 (oi := ?oi3) (v := ?v3) ?ho3 (by kernel_rfl) (by kernel_rfl) (by kernel_rfl) (by kernel_rfl) ?hq3 (Or.inl ⟨?hw3, ?hy3⟩) (fun _ => HS.out) ?rest3
 case ho3 => rfl
 case hw3 => rfl
 case hy3 => intro w; go_simp; try with_reducible rfl
 case hq3 => exact fun _ _ _ h => h
 refine wpTill_any 3 (oi := ?oi4) (v := ?v4) ?ho4 (by kernel_rfl) (by kernel_rfl) (by kernel_rfl) (by kernel_rfl) ?hq4 (Or.inl ⟨?hw4, ?hy4⟩) (fun _ => HS.out) ?rest4
 case ho4 => rfl
 case hw4 => rfl
 case hy4 => intro w; go_simp; try with_reducible rfl
 case hq4 => exact fun _ _ _ h => h
 refine wpTill_load 4 [4, 7] (oi := ?oi5) (v := ?v5) ?ho5 (by kernel_rfl) (by kernel_rfl) (by kernel_rfl) (by kernel_rfl) ?hq5 (Or.inl ⟨?hw5, ?hy5⟩) HS.out ?rest5
 case ho5 => rfl
 case hw5 => rfl
 case hy5 =>
  intro w hSw
  obtain ⟨x0, x1, x2, x3, x4, x5⟩ := rowN6 hSw.1
  clear hSw
  go_simp
  try with_reducible rfl
 case hq5 => exact fun _ _ _ h => h
 refine wpTill_load 5 [5, 6, 7] (oi := ?oi6) (v := ?v6) ?ho6 (by kernel_rfl) (by kernel_rfl) (by kernel_rfl) (by kernel_rfl) ?hq6 (Or.inl ⟨?hw6, ?hy6⟩) HS.out ?rest6
 case ho6 => rfl
 case hw6 => rfl
 case hy6 =>
  intro w hSw
  obtain ⟨z0, z1, z2, z3⟩ := row4 hSw.2
  clear hSw
  go_simp
  try with_reducible rfl
 case hq6 => exact fun _ _ _ h => h
 refine wpTill_ready (rs := [6]) (by kernel_rfl) (by decide) ?_
 refine AllTill.consH (o := ?oi7) ?ho7 (fun K hK => ?step7) ?more7
 case ho7 => rfl
 case step7 =>
  go_simp
  refine hK.out _ _ (fun _ => ⟨(Go.Lib.alloc_old _ _ _ (Go.lt_of_block HP.out.x)).trans HP.out.x, (Go.Lib.alloc_old _ _ _ (Go.lt_of_block HF.out)).trans HF.out⟩) (fun hHeld => ?_)
  have HS7 := hid (hHeld (by kernel_rfl))
  clear hHeld hK K
  refine wpTill_ready (rs := [7]) (by kernel_rfl) (by decide) ?_
  refine AllTill.consH (o := ?oi8) ?ho8 (fun K hK => ?step8) ?more8
  case ho8 => rfl
  case step8 =>
   refine step_append_lies _ (by rfl) (.tmp 73) (.tmp 75) 101 (by rfl) (X0 + 1) 106 i0 _ 4 80 Tryz.underlying101 HQ.out.1 HQ.out.2.1 HQ.out.2.2.1 HQ.out.2.2.2 rfl (by decide) (.slice aad ps.length acp) ps.length pc (by rfl) HOW.out ⟨w.heap.size, 0, none⟩ 1 1 [.string (X.ba p.id), .string (X.ba p.nm), .slice vad vl vcp, .slice iad il icp] (by rfl) rfl HNW.out HON.out (by decide) HMB.out.1 HMB.out.2 HBS.out _ rfl ?_
   intro g1 cap1 w13 hown1 hgrow hat hlt1
   have HP13 := hid (HP12.out.more HPH.out hown1 hgrow)
   have HX13 : Hid (w13.heap[X0]? = some (.cells #[.string ⟨#[]⟩, .string ⟨#[]⟩, .slice none 0 0, .slice none 0 0, .slice none 0 0, .slice aad ps.length acp] 103 (0, 0))) := row_own HP12.out.x hgrow (World.ownsRow.lt HOW.out)
   clear hown1 hgrow hat hlt1
   obtain ⟨y0, y1, y2, y3, y4, y5⟩ := rowN6 HX13.out
   have yf5 := Lib.frozen_of_heap HX13.out 5
   try dsimp only
   refine hK.out _ _ (fun hk => by cases (show true = false from hk)) (fun _ => ?_)
   clear hK K
   refine wpTill_any 8 (oi := ?oi9) (v := ?v9) ?ho9 (by kernel_rfl) (by kernel_rfl) (by kernel_rfl) (by kernel_rfl) ?hq9 (Or.inl ⟨?hw9, ?hy9⟩) (fun hk => by cases (show true = false from hk)) ?rest9
   case ho9 => rfl
   case hw9 => rfl
   case hy9 => intro w; go_simp; try with_reducible rfl
   case hq9 => exact fun _ _ _ h => h
   refine wpTill_any 9 (oi := ?oi10) (v := ?v10) ?ho10 (by kernel_rfl) (by kernel_rfl) (by kernel_rfl) (by kernel_rfl) ?hq10 (Or.inl ⟨?hw10, ?hy10⟩) (fun hk => by cases (show true = false from hk)) ?rest10
   case ho10 => rfl
   case hw10 => rfl
   case hy10 => intro w; go_simp; try with_reducible rfl
   case hq10 => exact fun _ _ _ h => h
   refine wpTill_ready (rs := [10]) (by kernel_rfl) (by decide) ?_
   refine AllTill.consH (o := ?oi11) ?ho11 (fun K hK => ?step11) ?more11
   case ho11 => rfl
   case step11 =>
    go_simp
    refine hK.out _ _ (fun hk => by cases (show true = false from hk)) (fun _ => ?_)
    clear hK K
    refine wpTill_done (by kernel_rfl) ?_ _
    exact hQ _ _ _ _ _ _ _ _ _ _ _ _ _ HP13.out
   case more11 =>
    exact AllTill.nil
  case more8 =>
   exact AllTill.nil
 case more7 =>
  exact AllTill.nil
theorem build_r13 {Qc : Exit → Act → World → Prop} {W w : World} {H X0 K : Nat} {cs pc : List Value} {ps : List O.Pr} {aad ava kva : Option Addr} {acp an avc kn kvc : Nat} {sp lo tx : ByteArray} {ln cl : Int} {res : Except O.Er O.Pr} {c0 c1 c2 c3 c4 c5 c6 c8 c10 c11 c12 c13 c14 c15 c16 c17 c18 c19 c20 c21 c22 c23 c24 c25 c26 c27 c28 c29 c30 c31 c32 c33 c34 c35 c36 c37 c38 c39 c40 c41 c42 c43 c44 c45 c46 c47 c48 c49 c50 c51 c52 c53 c54 c55 c56 c57 c58 c59 c60 c61 c62 c63 c64 c65 c66 c67 c68 c69 c70 c71 c72 c73 c74 c75 c76 c77 c78 c79 c80 c81 c82 c83 c84 c85 c86 c87 c88 c89 c90 c91 c92 c93 c94 c95 c96 c97 c98 c99 c100 c101 c102 c103 c104 c105 c106 c107 c108 c109 c110 c111 c112 c113 c114 c115 c116 c117 c118 c119 c120 c121 c122 : Value} (hp : QL W H cs X0 ps (.slice aad ps.length acp) pc w) (hk : w.heap[K]? = some (.cells #[.string sp, .string lo, .slice ava an avc, .slice kva kn kvc, .string tx, .int .i64 ln, .int .i64 cl] 44 (0, 0)))
  (hC : ∀ U, Below w.heap.size w U → Calls Tryz.prog 43 #[.agg #[.string sp, .string lo, .slice ava an avc, .slice kva kn kvc, .string tx, .int .i64 ln, .int .i64 cl], .slice aad ps.length acp] U (PrOf U res))
  (hOk : ∀ (p : O.Pr) (R : Nat) (vad iad : Option Addr) (vl vcp il icp : Nat) (w' : World) (u56 u57 u58 u59 u60 u61 u62 u63 u64 : Value), res = .ok p → PrHas w' (OwnG w' w.heap.size [tFlow, tItem, tBind]) p [.string (X.ba p.id), .string (X.ba p.nm), .slice vad vl vcp, .slice iad il icp] → w'.heap[R]? = some (.cells #[.string (X.ba p.id), .string (X.ba p.nm), .slice vad vl vcp, .slice iad il icp] 106 (0, 0)) → Below w.heap.size w w' → Qc .normal ⟨(c0 :: c1 :: c2 :: c3 :: c4 :: c5 :: c6 :: .pointer (some ⟨X0, 0, none⟩) :: c8 :: .pointer (some ⟨K, 0, none⟩) :: .pointer (some ⟨R, 0, none⟩) :: .pointer none :: c12 :: c13 :: c14 :: c15 :: c16 :: c17 :: c18 :: c19 :: c20 :: c21 :: c22 :: c23 :: c24 :: c25 :: c26 :: c27 :: c28 :: c29 :: c30 :: c31 :: c32 :: c33 :: c34 :: c35 :: c36 :: c37 :: c38 :: c39 :: c40 :: c41 :: c42 :: c43 :: c44 :: c45 :: c46 :: c47 :: c48 :: c49 :: c50 :: c51 :: c52 :: c53 :: c54 :: c55 :: u56 :: u57 :: u58 :: u59 :: u60 :: u61 :: u62 :: u63 :: u64 :: c65 :: c66 :: c67 :: c68 :: c69 :: c70 :: c71 :: c72 :: c73 :: c74 :: c75 :: c76 :: c77 :: c78 :: c79 :: c80 :: c81 :: c82 :: c83 :: c84 :: c85 :: c86 :: c87 :: c88 :: c89 :: c90 :: c91 :: c92 :: c93 :: c94 :: c95 :: c96 :: c97 :: c98 :: c99 :: c100 :: c101 :: c102 :: c103 :: c104 :: c105 :: c106 :: c107 :: c108 :: c109 :: c110 :: c111 :: c112 :: c113 :: c114 :: c115 :: c116 :: c117 :: c118 :: c119 :: c120 :: c121 :: c122 :: []).toArray, []⟩ w')
  (hEr : ∀ (e : O.Er) (f R : Nat) (w' : World) (u56 u57 u58 u59 u60 u61 u62 u63 u64 : Value), res = .error e → w.heap.size ≤ f → w'.heap[f]? = some (faultRow e.1 e.2.1 e.2.2) → Below w.heap.size w w' → Qc .normal ⟨(c0 :: c1 :: c2 :: c3 :: c4 :: c5 :: c6 :: .pointer (some ⟨X0, 0, none⟩) :: c8 :: .pointer (some ⟨K, 0, none⟩) :: .pointer (some ⟨R, 0, none⟩) :: .pointer (some ⟨f, 0, none⟩) :: c12 :: c13 :: c14 :: c15 :: c16 :: c17 :: c18 :: c19 :: c20 :: c21 :: c22 :: c23 :: c24 :: c25 :: c26 :: c27 :: c28 :: c29 :: c30 :: c31 :: c32 :: c33 :: c34 :: c35 :: c36 :: c37 :: c38 :: c39 :: c40 :: c41 :: c42 :: c43 :: c44 :: c45 :: c46 :: c47 :: c48 :: c49 :: c50 :: c51 :: c52 :: c53 :: c54 :: c55 :: u56 :: u57 :: u58 :: u59 :: u60 :: u61 :: u62 :: u63 :: u64 :: c65 :: c66 :: c67 :: c68 :: c69 :: c70 :: c71 :: c72 :: c73 :: c74 :: c75 :: c76 :: c77 :: c78 :: c79 :: c80 :: c81 :: c82 :: c83 :: c84 :: c85 :: c86 :: c87 :: c88 :: c89 :: c90 :: c91 :: c92 :: c93 :: c94 :: c95 :: c96 :: c97 :: c98 :: c99 :: c100 :: c101 :: c102 :: c103 :: c104 :: c105 :: c106 :: c107 :: c108 :: c109 :: c110 :: c111 :: c112 :: c113 :: c114 :: c115 :: c116 :: c117 :: c118 :: c119 :: c120 :: c121 :: c122 :: []).toArray, []⟩ w') :
  Code.wp Tryz.prog (buildReg 13) Qc ⟨(c0 :: c1 :: c2 :: c3 :: c4 :: c5 :: c6 :: .pointer (some ⟨X0, 0, none⟩) :: c8 :: .pointer (some ⟨K, 0, none⟩) :: c10 :: c11 :: c12 :: c13 :: c14 :: c15 :: c16 :: c17 :: c18 :: c19 :: c20 :: c21 :: c22 :: c23 :: c24 :: c25 :: c26 :: c27 :: c28 :: c29 :: c30 :: c31 :: c32 :: c33 :: c34 :: c35 :: c36 :: c37 :: c38 :: c39 :: c40 :: c41 :: c42 :: c43 :: c44 :: c45 :: c46 :: c47 :: c48 :: c49 :: c50 :: c51 :: c52 :: c53 :: c54 :: c55 :: c56 :: c57 :: c58 :: c59 :: c60 :: c61 :: c62 :: c63 :: c64 :: c65 :: c66 :: c67 :: c68 :: c69 :: c70 :: c71 :: c72 :: c73 :: c74 :: c75 :: c76 :: c77 :: c78 :: c79 :: c80 :: c81 :: c82 :: c83 :: c84 :: c85 :: c86 :: c87 :: c88 :: c89 :: c90 :: c91 :: c92 :: c93 :: c94 :: c95 :: c96 :: c97 :: c98 :: c99 :: c100 :: c101 :: c102 :: c103 :: c104 :: c105 :: c106 :: c107 :: c108 :: c109 :: c110 :: c111 :: c112 :: c113 :: c114 :: c115 :: c116 :: c117 :: c118 :: c119 :: c120 :: c121 :: c122 :: []).toArray, []⟩ w := by
 have HP := hid hp
 have HK := hid hk
 have HC := hid hC
 obtain ⟨v0, hv0⟩ : ∃ v, (w.alloc (.cells #[.string ⟨#[]⟩, .string ⟨#[]⟩, .slice none 0 0, .slice none 0 0] 106)).drew = v := ⟨_, rfl⟩
 have HBV : Hid (Below w.heap.size w v0) := by show Below _ _ _; rw [← hv0]; exact ((Below.refl _ w).alloc (Nat.le_refl _) _).drew
 have HVZ : Hid (v0.heap[w.heap.size]? = some (.cells #[.string ⟨#[]⟩, .string ⟨#[]⟩, .slice none 0 0, .slice none 0 0] 106 (0, 0))) := by show _ = _; rw [← hv0]; exact heap_alloc_new w _
 have HV0 := hid hv0
 clear hp hk hC hv0
 conv => arg 2; whnf
 refine wp_region_noPanic ?_
 refine wp_region_till (S := (fun W : World => W.heap[X0]? = some (.cells #[.string ⟨#[]⟩, .string ⟨#[]⟩, .slice none 0 0, .slice none 0 0, .slice none 0 0, .slice aad ps.length acp] 103 (0, 0)) ∧ W.heap[K]? = some (.cells #[.string sp, .string lo, .slice ava an avc, .slice kva kn kvc, .string tx, .int .i64 ln, .int .i64 cl] 44 (0, 0)))) 10 (by kernel_rfl) ?_
 have HS := hid (show ((fun W : World => W.heap[X0]? = some (.cells #[.string ⟨#[]⟩, .string ⟨#[]⟩, .slice none 0 0, .slice none 0 0, .slice none 0 0, .slice aad ps.length acp] 103 (0, 0)) ∧ W.heap[K]? = some (.cells #[.string sp, .string lo, .slice ava an avc, .slice kva kn kvc, .string tx, .int .i64 ln, .int .i64 cl] 44 (0, 0)))) _ from ⟨HP.out.x, HK.out⟩)
 refine wpTill_any 1 (oi := ?oi12) (v := ?v12) ?ho12 (by kernel_rfl) (by kernel_rfl) (by kernel_rfl) (by kernel_rfl) ?hq12 (Or.inl ⟨?hw12, ?hy12⟩) (fun _ => HS.out) ?rest12
 case ho12 => rfl
 case hw12 => rfl
 case hy12 => intro w; go_simp; try with_reducible rfl
 case hq12 => exact fun _ _ _ h => h
 refine wpTill_any 2 (oi := ?oi13) (v := ?v13) ?ho13 (by kernel_rfl) (by kernel_rfl) (by kernel_rfl) (by kernel_rfl) ?hq13 (Or.inl ⟨?hw13, ?hy13⟩) (fun _ => HS.out) ?rest13
 case ho13 => rfl
 case hw13 => rfl
 case hy13 => intro w; go_simp; try with_reducible rfl
 case hq13 => exact fun _ _ _ h => h
 refine wpTill_any 3 (oi := ?oi14) (v := ?v14) ?ho14 (by kernel_rfl) (by kernel_rfl) (by kernel_rfl) (by kernel_rfl) ?hq14 (Or.inl ⟨?hw14, ?hy14⟩) (fun _ => HS.out) ?rest14
 case ho14 => rfl
 case hw14 => rfl
 case hy14 => intro w; go_simp; try with_reducible rfl
 case hq14 => exact fun _ _ _ h => h
 refine wpTill_load 0 [0, 10] (oi := ?oi15) (v := ?v15) ?ho15 (by kernel_rfl) (by kernel_rfl) (by kernel_rfl) (by kernel_rfl) ?hq15 (Or.inl ⟨?hw15, ?hy15⟩) HS.out ?rest15
 case ho15 => rfl
 case hw15 => rfl
 case hy15 =>
  intro w hSw
  obtain ⟨k0, k1, k2, k3, k4, k5, k6⟩ := row7 hSw.2
  clear hSw
  go_simp
  try with_reducible rfl
 case hq15 => exact fun _ _ _ h => h
 refine wpTill_load 4 [4, 10] (oi := ?oi16) (v := ?v16) ?ho16 (by kernel_rfl) (by kernel_rfl) (by kernel_rfl) (by kernel_rfl) ?hq16 (Or.inl ⟨?hw16, ?hy16⟩) HS.out ?rest16
 case ho16 => rfl
 case hw16 => rfl
 case hy16 =>
  intro w hSw
  obtain ⟨x0, x1, x2, x3, x4, x5⟩ := rowN6 hSw.1
  clear hSw
  go_simp
  try with_reducible rfl
 case hq16 => exact fun _ _ _ h => h
 refine wpTill_ready (rs := [5, 9]) (by kernel_rfl) (by decide) ?_
 refine AllTill.consH (o := ?oi17) ?ho17 (fun K hK => ?step17) ?more17
 case ho17 => rfl
 case step17 =>
  go_simp
  refine (HC.out w.drew (Below.refl _ w).drew).mono ?_
  rintro en w3 (⟨p, cs', hx, rfl, hph, hb3⟩ | ⟨e, hx, f, rfl, hf, hrow, hb3⟩)
  · have HB3 : Hid (Below w.heap.size w w3) := fromDrew hb3
    obtain ⟨v3, hv3⟩ : ∃ v, w3.alloc (.cells #[.string ⟨#[]⟩, .string ⟨#[]⟩, .slice none 0 0, .slice none 0 0] 106) = v := ⟨_, rfl⟩
    have HB4 : Hid (Below w3.heap.size w3 v3) := by
     show Below _ _ _
     rw [← hv3]
     exact (Below.refl _ w3).alloc (Nat.le_refl _) _
    have HB5 := hid (HB3.out.trans (HB4.out.mono HB3.out.size))
    have HZ : Hid (v3.heap[w3.heap.size]? = some (.cells #[.string ⟨#[]⟩, .string ⟨#[]⟩, .slice none 0 0, .slice none 0 0] 106 (0, 0))) := by
     show _ = _
     rw [← hv3]
     exact heap_alloc_new w3 _
    have HV3 := hid hv3
    obtain ⟨vv, iv, rfl, hvv, hiv⟩ := hph
    obtain ⟨vad, vcp, rfl⟩ := hvv.shape
    obtain ⟨iad, icp, rfl⟩ := hiv.shape
    obtain ⟨vl, hvl⟩ : ∃ v, p.vars.length = v := ⟨_, rfl⟩
    obtain ⟨il, hil⟩ : ∃ v, p.items.length = v := ⟨_, rfl⟩
    rw [hvl] at hvv ⊢
    rw [hil] at hiv ⊢
    have HPH : Hid (PrHas w3 (OwnG w3 w.heap.size [tFlow, tItem, tBind]) p [.string (X.ba p.id), .string (X.ba p.nm), .slice vad vl vcp, .slice iad il icp]) := PrHas.keep (w := w3) (fun b hb => hb.sub (fun _ h => h) (Nat.le_refl _)) (fun _ _ => rfl) ⟨_, _, rfl, hvv, hiv⟩
    have HX := hid hx
    rw [show (([Value.string (X.ba p.id), .string (X.ba p.nm), .slice vad vl vcp, .slice iad il icp] : List Value).toArray) = #[.string (X.ba p.id), .string (X.ba p.nm), .slice vad vl vcp, .slice iad il icp] from rfl]
    clear hb3 hv3
    clear hvv hiv hvl hil hx
    try dsimp only
    refine hK.out _ _ (fun _ => ⟨(HB3.out.block _ (Go.lt_of_block HP.out.x)).trans HP.out.x, (HB3.out.block _ (Go.lt_of_block HK.out)).trans HK.out⟩) (fun hHeld => ?_)
    have HS17 := hid (hHeld (by kernel_rfl))
    clear hHeld hK K
    refine wpTill_any 6 (oi := ?oi18) (v := ?v18) ?ho18 (by kernel_rfl) (by kernel_rfl) (by kernel_rfl) (by kernel_rfl) ?hq18 (Or.inl ⟨?hw18, ?hy18⟩) (fun _ => HS17.out) ?rest18
    case ho18 => rfl
    case hw18 => rfl
    case hy18 => intro w; go_simp; try with_reducible rfl
    case hq18 => exact fun _ _ _ h => h
    refine wpTill_any 7 (oi := ?oi19) (v := ?v19) ?ho19 (by kernel_rfl) (by kernel_rfl) (by kernel_rfl) (by kernel_rfl) ?hq19 (Or.inl ⟨?hw19, ?hy19⟩) (fun _ => HS17.out) ?rest19
    case ho19 => rfl
    case hw19 => rfl
    case hy19 => intro w; go_simp; try with_reducible rfl
    case hq19 => exact fun _ _ _ h => h
    refine wpTill_any 8 (oi := ?oi20) (v := ?v20) ?ho20 (by kernel_rfl) (by kernel_rfl) (by kernel_rfl) (by kernel_rfl) ?hq20 (Or.inl ⟨?hw20, ?hy20⟩) (fun _ => HS17.out) ?rest20
    case ho20 => rfl
    case hw20 => rfl
    case hy20 => intro w; go_simp; try with_reducible rfl
    case hq20 => exact fun _ _ _ h => h
    refine wpTill_ready (rs := [9]) (by kernel_rfl) (by decide) ?_
    refine AllTill.consH (o := ?oi21) ?ho21 (fun K hK => ?step21) ?more21
    case ho21 => rfl
    case step21 =>
     go_simp
     rw [HV3.out]
     refine hK.out _ _ (fun _ => ⟨(HB5.out.block _ (Go.lt_of_block HP.out.x)).trans HP.out.x, (HB5.out.block _ (Go.lt_of_block HK.out)).trans HK.out⟩) (fun hHeld => ?_)
     have HS21 := hid (hHeld (by kernel_rfl))
     clear hHeld hK K
     refine wpTill_ready (rs := [10]) (by kernel_rfl) (by decide) ?_
     refine AllTill.consH (o := ?oi22) ?ho22 (fun K hK => ?step22) ?more22
     case ho22 => rfl
     case step22 =>
       obtain ⟨y0, y1, y2, y3⟩ := row4 HZ.out
       obtain ⟨yf0, yf1, yf2, yf3⟩ := free4 HZ.out
       go_simp
       refine hK.out _ _ (fun hk => by cases (show true = false from hk)) (fun _ => ?_)
       clear hK K
       refine wpTill_any 11 (oi := ?oi23) (v := ?v23) ?ho23 (by kernel_rfl) (by kernel_rfl) (by kernel_rfl) (by kernel_rfl) ?hq23 (Or.inl ⟨?hw23, ?hy23⟩) (fun hk => by cases (show true = false from hk)) ?rest23
       case ho23 => rfl
       case hw23 => rfl
       case hy23 => intro w; go_simp; try with_reducible rfl
       case hq23 => exact fun _ _ _ h => h
       refine wpTill_done (by kernel_rfl) ?_ _
       have hg := sts_grown [.string (X.ba p.id), .string (X.ba p.nm), .slice vad vl vcp, .slice iad il icp] v3 (w3.heap.size) 0
       have hB := HB5.out.grown hg HB5.out.size (fun k hk => by have h1 := Option.some.inj hk; have h2 := HB3.out.size; omega)
       have hk : KeepG w3 _ [tFlow, tItem, tBind] := ((KeepG.below HB4.out _).trans (KeepG.grown hg HZ.out (by decide)))
       exact hOk p (w3.heap.size) vad iad vl vcp il icp _ _ _ _ _ _ _ _ _ _ HX.out (HPH.out.keep (fun b hb => (hb.keep hk).1) (fun b hb => (hb.keep hk).2)) (sts_row [.string (X.ba p.id), .string (X.ba p.nm), .slice vad vl vcp, .slice iad il icp] [] [.string ⟨#[]⟩, .string ⟨#[]⟩, .slice none 0 0, .slice none 0 0] v3 HZ.out rfl) hB
     case more22 =>
       exact AllTill.nil
    case more21 =>
     exact AllTill.nil
  · have HB3 : Hid (Below w.heap.size w w3) := fromDrew hb3
    obtain ⟨v3, hv3⟩ : ∃ v, w3.alloc (.cells #[.string ⟨#[]⟩, .string ⟨#[]⟩, .slice none 0 0, .slice none 0 0] 106) = v := ⟨_, rfl⟩
    have HB4 : Hid (Below w3.heap.size w3 v3) := by
     show Below _ _ _
     rw [← hv3]
     exact (Below.refl _ w3).alloc (Nat.le_refl _) _
    have HB5 := hid (HB3.out.trans (HB4.out.mono HB3.out.size))
    have HZ : Hid (v3.heap[w3.heap.size]? = some (.cells #[.string ⟨#[]⟩, .string ⟨#[]⟩, .slice none 0 0, .slice none 0 0] 106 (0, 0))) := by
     show _ = _
     rw [← hv3]
     exact heap_alloc_new w3 _
    have HV3 := hid hv3
    have HX := hid hx
    have HFF : Hid (w.heap.size ≤ f ∧ w3.heap[f]? = some (faultRow e.1 e.2.1 e.2.2)) := ⟨hf, hrow⟩
    rw [show (zero4.toArray : Array Value) = #[.string ⟨#[]⟩, .string ⟨#[]⟩, .slice none 0 0, .slice none 0 0] from rfl]
    clear hb3 hv3
    clear hx hf hrow
    try dsimp only
    refine hK.out _ _ (fun _ => ⟨(HB3.out.block _ (Go.lt_of_block HP.out.x)).trans HP.out.x, (HB3.out.block _ (Go.lt_of_block HK.out)).trans HK.out⟩) (fun hHeld => ?_)
    have HS17 := hid (hHeld (by kernel_rfl))
    clear hHeld hK K
    refine wpTill_any 6 (oi := ?oi24) (v := ?v24) ?ho24 (by kernel_rfl) (by kernel_rfl) (by kernel_rfl) (by kernel_rfl) ?hq24 (Or.inl ⟨?hw24, ?hy24⟩) (fun _ => HS17.out) ?rest24
    case ho24 => rfl
    case hw24 => rfl
    case hy24 => intro w; go_simp; try with_reducible rfl
    case hq24 => exact fun _ _ _ h => h
    refine wpTill_any 7 (oi := ?oi25) (v := ?v25) ?ho25 (by kernel_rfl) (by kernel_rfl) (by kernel_rfl) (by kernel_rfl) ?hq25 (Or.inl ⟨?hw25, ?hy25⟩) (fun _ => HS17.out) ?rest25
    case ho25 => rfl
    case hw25 => rfl
    case hy25 => intro w; go_simp; try with_reducible rfl
    case hq25 => exact fun _ _ _ h => h
    refine wpTill_any 8 (oi := ?oi26) (v := ?v26) ?ho26 (by kernel_rfl) (by kernel_rfl) (by kernel_rfl) (by kernel_rfl) ?hq26 (Or.inl ⟨?hw26, ?hy26⟩) (fun _ => HS17.out) ?rest26
    case ho26 => rfl
    case hw26 => rfl
    case hy26 => intro w; go_simp; try with_reducible rfl
    case hq26 => exact fun _ _ _ h => h
    refine wpTill_ready (rs := [9]) (by kernel_rfl) (by decide) ?_
    refine AllTill.consH (o := ?oi27) ?ho27 (fun K hK => ?step27) ?more27
    case ho27 => rfl
    case step27 =>
     go_simp
     rw [HV3.out]
     refine hK.out _ _ (fun _ => ⟨(HB5.out.block _ (Go.lt_of_block HP.out.x)).trans HP.out.x, (HB5.out.block _ (Go.lt_of_block HK.out)).trans HK.out⟩) (fun hHeld => ?_)
     have HS27 := hid (hHeld (by kernel_rfl))
     clear hHeld hK K
     refine wpTill_ready (rs := [10]) (by kernel_rfl) (by decide) ?_
     refine AllTill.consH (o := ?oi28) ?ho28 (fun K hK => ?step28) ?more28
     case ho28 => rfl
     case step28 =>
       obtain ⟨y0, y1, y2, y3⟩ := row4 HZ.out
       obtain ⟨yf0, yf1, yf2, yf3⟩ := free4 HZ.out
       go_simp
       refine hK.out _ _ (fun hk => by cases (show true = false from hk)) (fun _ => ?_)
       clear hK K
       refine wpTill_any 11 (oi := ?oi29) (v := ?v29) ?ho29 (by kernel_rfl) (by kernel_rfl) (by kernel_rfl) (by kernel_rfl) ?hq29 (Or.inl ⟨?hw29, ?hy29⟩) (fun hk => by cases (show true = false from hk)) ?rest29
       case ho29 => rfl
       case hw29 => rfl
       case hy29 => intro w; go_simp; try with_reducible rfl
       case hq29 => exact fun _ _ _ h => h
       refine wpTill_done (by kernel_rfl) ?_ _
       have hg := sts_grown zero4 v3 (w3.heap.size) 0
       have hB := HB5.out.grown hg HB5.out.size (fun k hk => by have h1 := Option.some.inj hk; have h2 := HB3.out.size; omega)
       have hfR : f ≠ w3.heap.size := by have h1 := Go.lt_of_block HFF.out.2; omega
       exact hEr e f (w3.heap.size) _ _ _ _ _ _ _ _ _ _ HX.out (by have h1 := HFF.out.1; have h2 := HBV.out.size; omega) ((hg.block f (Go.lt_of_block ((HB4.out.block f (Go.lt_of_block HFF.out.2)).trans HFF.out.2)) (fun e => hfR (Option.some.inj e))).trans ((HB4.out.block f (Go.lt_of_block HFF.out.2)).trans HFF.out.2)) hB
     case more28 =>
       exact AllTill.nil
    case more27 =>
     exact AllTill.nil
 case more17 =>
  refine AllTill.consH (o := ?oi30) ?ho30 (fun K hK => ?step30) ?more30
  case ho30 => rfl
  case step30 =>
    go_simp
    rw [HV0.out]
    refine hK.out _ _ (fun _ => ⟨(HBV.out.block _ (Go.lt_of_block HP.out.x)).trans HP.out.x, (HBV.out.block _ (Go.lt_of_block HK.out)).trans HK.out⟩) (fun hHeld => ?_)
    have HS30 := hid (hHeld (by kernel_rfl))
    clear hHeld hK K
    refine wpTill_ready (rs := [5]) (by kernel_rfl) (by decide) ?_
    refine AllTill.consH (o := ?oi31) ?ho31 (fun K hK => ?step31) ?more31
    case ho31 => rfl
    case step31 =>
     go_simp
     refine (HC.out v0 HBV.out).mono ?_
     rintro en w3 (⟨p, cs', hx, rfl, hph, hb3⟩ | ⟨e, hx, f, rfl, hf, hrow, hb3⟩)
     · have HB3 : Hid (Below w.heap.size w w3) := HBV.out.trans (hb3.mono HBV.out.size)
       have HZ : Hid (w3.heap[w.heap.size]? = some (.cells #[.string ⟨#[]⟩, .string ⟨#[]⟩, .slice none 0 0, .slice none 0 0] 106 (0, 0))) := (hb3.block _ (Go.lt_of_block HVZ.out)).trans HVZ.out
       obtain ⟨vv, iv, rfl, hvv, hiv⟩ := hph
       obtain ⟨vad, vcp, rfl⟩ := hvv.shape
       obtain ⟨iad, icp, rfl⟩ := hiv.shape
       obtain ⟨vl, hvl⟩ : ∃ v, p.vars.length = v := ⟨_, rfl⟩
       obtain ⟨il, hil⟩ : ∃ v, p.items.length = v := ⟨_, rfl⟩
       rw [hvl] at hvv ⊢
       rw [hil] at hiv ⊢
       have HPH : Hid (PrHas w3 (OwnG w3 w.heap.size [tFlow, tItem, tBind]) p [.string (X.ba p.id), .string (X.ba p.nm), .slice vad vl vcp, .slice iad il icp]) := PrHas.keep (w := w3) (fun b hb => hb.sub (fun _ h => h) (HBV.out.size)) (fun _ _ => rfl) ⟨_, _, rfl, hvv, hiv⟩
       have HX := hid hx
       rw [show (([Value.string (X.ba p.id), .string (X.ba p.nm), .slice vad vl vcp, .slice iad il icp] : List Value).toArray) = #[.string (X.ba p.id), .string (X.ba p.nm), .slice vad vl vcp, .slice iad il icp] from rfl]
       clear hb3
       clear hvv hiv hvl hil hx
       try dsimp only
       refine hK.out _ _ (fun _ => ⟨(HB3.out.block _ (Go.lt_of_block HP.out.x)).trans HP.out.x, (HB3.out.block _ (Go.lt_of_block HK.out)).trans HK.out⟩) (fun hHeld => ?_)
       have HS31 := hid (hHeld (by kernel_rfl))
       clear hHeld hK K
       refine wpTill_any 6 (oi := ?oi32) (v := ?v32) ?ho32 (by kernel_rfl) (by kernel_rfl) (by kernel_rfl) (by kernel_rfl) ?hq32 (Or.inl ⟨?hw32, ?hy32⟩) (fun _ => HS31.out) ?rest32
       case ho32 => rfl
       case hw32 => rfl
       case hy32 => intro w; go_simp; try with_reducible rfl
       case hq32 => exact fun _ _ _ h => h
       refine wpTill_any 7 (oi := ?oi33) (v := ?v33) ?ho33 (by kernel_rfl) (by kernel_rfl) (by kernel_rfl) (by kernel_rfl) ?hq33 (Or.inl ⟨?hw33, ?hy33⟩) (fun _ => HS31.out) ?rest33
       case ho33 => rfl
       case hw33 => rfl
       case hy33 => intro w; go_simp; try with_reducible rfl
       case hq33 => exact fun _ _ _ h => h
       refine wpTill_any 8 (oi := ?oi34) (v := ?v34) ?ho34 (by kernel_rfl) (by kernel_rfl) (by kernel_rfl) (by kernel_rfl) ?hq34 (Or.inl ⟨?hw34, ?hy34⟩) (fun _ => HS31.out) ?rest34
       case ho34 => rfl
       case hw34 => rfl
       case hy34 => intro w; go_simp; try with_reducible rfl
       case hq34 => exact fun _ _ _ h => h
       refine wpTill_ready (rs := [10]) (by kernel_rfl) (by decide) ?_
       refine AllTill.consH (o := ?oi35) ?ho35 (fun K hK => ?step35) ?more35
       case ho35 => rfl
       case step35 =>
        obtain ⟨y0, y1, y2, y3⟩ := row4 HZ.out
        obtain ⟨yf0, yf1, yf2, yf3⟩ := free4 HZ.out
        go_simp
        refine hK.out _ _ (fun hk => by cases (show true = false from hk)) (fun _ => ?_)
        clear hK K
        refine wpTill_any 11 (oi := ?oi36) (v := ?v36) ?ho36 (by kernel_rfl) (by kernel_rfl) (by kernel_rfl) (by kernel_rfl) ?hq36 (Or.inl ⟨?hw36, ?hy36⟩) (fun hk => by cases (show true = false from hk)) ?rest36
        case ho36 => rfl
        case hw36 => rfl
        case hy36 => intro w; go_simp; try with_reducible rfl
        case hq36 => exact fun _ _ _ h => h
        refine wpTill_done (by kernel_rfl) ?_ _
        have hg := sts_grown [.string (X.ba p.id), .string (X.ba p.nm), .slice vad vl vcp, .slice iad il icp] w3 (w.heap.size) 0
        have hB := HB3.out.grown hg HB3.out.size (fun k hk => by have h1 := Option.some.inj hk; have h2 := HB3.out.size; omega)
        have hk : KeepG w3 _ [tFlow, tItem, tBind] := (KeepG.grown hg HZ.out (by decide))
        exact hOk p (w.heap.size) vad iad vl vcp il icp _ _ _ _ _ _ _ _ _ _ HX.out (HPH.out.keep (fun b hb => (hb.keep hk).1) (fun b hb => (hb.keep hk).2)) (sts_row [.string (X.ba p.id), .string (X.ba p.nm), .slice vad vl vcp, .slice iad il icp] [] [.string ⟨#[]⟩, .string ⟨#[]⟩, .slice none 0 0, .slice none 0 0] w3 HZ.out rfl) hB
       case more35 =>
        exact AllTill.nil
     · have HB3 : Hid (Below w.heap.size w w3) := HBV.out.trans (hb3.mono HBV.out.size)
       have HZ : Hid (w3.heap[w.heap.size]? = some (.cells #[.string ⟨#[]⟩, .string ⟨#[]⟩, .slice none 0 0, .slice none 0 0] 106 (0, 0))) := (hb3.block _ (Go.lt_of_block HVZ.out)).trans HVZ.out
       have HX := hid hx
       have HFF : Hid (v0.heap.size ≤ f ∧ w3.heap[f]? = some (faultRow e.1 e.2.1 e.2.2)) := ⟨hf, hrow⟩
       rw [show (zero4.toArray : Array Value) = #[.string ⟨#[]⟩, .string ⟨#[]⟩, .slice none 0 0, .slice none 0 0] from rfl]
       clear hb3
       clear hx hf hrow
       try dsimp only
       refine hK.out _ _ (fun _ => ⟨(HB3.out.block _ (Go.lt_of_block HP.out.x)).trans HP.out.x, (HB3.out.block _ (Go.lt_of_block HK.out)).trans HK.out⟩) (fun hHeld => ?_)
       have HS31 := hid (hHeld (by kernel_rfl))
       clear hHeld hK K
       refine wpTill_any 6 (oi := ?oi37) (v := ?v37) ?ho37 (by kernel_rfl) (by kernel_rfl) (by kernel_rfl) (by kernel_rfl) ?hq37 (Or.inl ⟨?hw37, ?hy37⟩) (fun _ => HS31.out) ?rest37
       case ho37 => rfl
       case hw37 => rfl
       case hy37 => intro w; go_simp; try with_reducible rfl
       case hq37 => exact fun _ _ _ h => h
       refine wpTill_any 7 (oi := ?oi38) (v := ?v38) ?ho38 (by kernel_rfl) (by kernel_rfl) (by kernel_rfl) (by kernel_rfl) ?hq38 (Or.inl ⟨?hw38, ?hy38⟩) (fun _ => HS31.out) ?rest38
       case ho38 => rfl
       case hw38 => rfl
       case hy38 => intro w; go_simp; try with_reducible rfl
       case hq38 => exact fun _ _ _ h => h
       refine wpTill_any 8 (oi := ?oi39) (v := ?v39) ?ho39 (by kernel_rfl) (by kernel_rfl) (by kernel_rfl) (by kernel_rfl) ?hq39 (Or.inl ⟨?hw39, ?hy39⟩) (fun _ => HS31.out) ?rest39
       case ho39 => rfl
       case hw39 => rfl
       case hy39 => intro w; go_simp; try with_reducible rfl
       case hq39 => exact fun _ _ _ h => h
       refine wpTill_ready (rs := [10]) (by kernel_rfl) (by decide) ?_
       refine AllTill.consH (o := ?oi40) ?ho40 (fun K hK => ?step40) ?more40
       case ho40 => rfl
       case step40 =>
        obtain ⟨y0, y1, y2, y3⟩ := row4 HZ.out
        obtain ⟨yf0, yf1, yf2, yf3⟩ := free4 HZ.out
        go_simp
        refine hK.out _ _ (fun hk => by cases (show true = false from hk)) (fun _ => ?_)
        clear hK K
        refine wpTill_any 11 (oi := ?oi41) (v := ?v41) ?ho41 (by kernel_rfl) (by kernel_rfl) (by kernel_rfl) (by kernel_rfl) ?hq41 (Or.inl ⟨?hw41, ?hy41⟩) (fun hk => by cases (show true = false from hk)) ?rest41
        case ho41 => rfl
        case hw41 => rfl
        case hy41 => intro w; go_simp; try with_reducible rfl
        case hq41 => exact fun _ _ _ h => h
        refine wpTill_done (by kernel_rfl) ?_ _
        have hg := sts_grown zero4 w3 (w.heap.size) 0
        have hB := HB3.out.grown hg HB3.out.size (fun k hk => by have h1 := Option.some.inj hk; have h2 := HB3.out.size; omega)
        have hfR : f ≠ w.heap.size := by have h1 := HFF.out.1; have h2 := Go.lt_of_block HVZ.out; omega
        exact hEr e f (w.heap.size) _ _ _ _ _ _ _ _ _ _ HX.out (by have h1 := HFF.out.1; have h2 := HBV.out.size; omega) ((hg.block f (Go.lt_of_block HFF.out.2) (fun e => hfR (Option.some.inj e))).trans HFF.out.2) hB
       case more40 =>
        exact AllTill.nil
    case more31 =>
     exact AllTill.nil
  case more30 =>
    exact AllTill.nil
end Go.Proofs.YteejphiklpnjhaaGreatDoor
