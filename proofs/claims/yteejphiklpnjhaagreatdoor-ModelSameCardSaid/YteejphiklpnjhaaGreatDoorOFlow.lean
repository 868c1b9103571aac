/- A flow that holds nothing. -/
import Derived.Test.YteejphiklpnjhaaGreatDoorOA2
namespace Go.Proofs.YteejphiklpnjhaaGreatDoor
set_option maxRecDepth 100000
set_option maxHeartbeats 16000000
open Go.RowKit Go.Maps
open Go.Lib (hid)
theorem flow_eq (n : X.E) : O.flow n = match plainE n with | some e => .error e | none => match O.read O.flowRules (X.E.as n) with | .error e => .error (e, n.ln, n.cl) | .ok g => .ok ⟨n.ln, n.cl, some ⟨O.get g [105, 100], O.get g [115, 111, 117, 114, 99, 101, 82, 101, 102], O.get g [116, 97, 114, 103, 101, 116, 82, 101, 102]⟩, O.zeroEl, [], false⟩ := by
 unfold O.flow plainE
 by_cases h : O.trim n.tx.data.toList ≠ []
 · rw [if_pos h, if_pos h]
 · rw [if_neg h, if_neg h]
   rfl
theorem flow_any {P : Nat → Prop} {W : World} {n : X.E} {cs : List Value} (hn : n.Has W P cs) (hks : n.ks = .nil) (hP : ∀ b, P b → b < W.heap.size) (hE : EnvO W)
   (hl : (X.E.as n).length ≤ 32) (hsm : ∀ x ∈ X.E.as n, x.lo.size ≤ 100000 ∧ x.va.size ≤ 100000) (hts : n.tx.size ≤ 1000000000000) :
   Calls Tryz.prog 94 #[.agg cs.toArray] W (ItOf W (O.flow n)) := by
 obtain ⟨RES, hRES⟩ : ∃ x, O.flow n = x := ⟨_, rfl⟩
 have HRES : Hid (RES = _) := hRES.symm.trans (flow_eq n)
 rw [hRES]
 have HN0 := hid hn
 obtain ⟨av, kv, rfl, hA, hK⟩ := hn
 obtain ⟨ka, kc, rfl⟩ : ∃ a c, kv = .slice a 0 c := by
   have := hK.shape
   rw [hks] at this
   exact this
 have HP := hid hP
 have HE := hid hE
 have HL := hid hl
 have HSM := hid hsm
 have HTS := hid hts
 obtain ⟨H, hH⟩ : ∃ H, W.heap.size = H := ⟨_, rfl⟩
 obtain ⟨w1, hw1⟩ : ∃ w1, (W.alloc (.cells #[.string n.sp, .string n.lo, av, .slice ka 0 kc, .string n.tx, .int .i64 n.ln, .int .i64 n.cl] 44)).alloc (.cells #[.int .i64 0, .int .i64 0, .pointer none, .string ⟨#[]⟩, .string ⟨#[]⟩, .int .u8 0, .string ⟨#[]⟩, .string ⟨#[]⟩, .string ⟨#[]⟩, .int .u8 0, .string ⟨#[]⟩, .string ⟨#[]⟩, .int .i64 0, .int .i64 0, .string ⟨#[]⟩, .slice none 0 0] 144) = w1 := ⟨_, rfl⟩
 have HN1 : Hid (NB W H [.string n.sp, .string n.lo, av, .slice ka 0 kc, .string n.tx, .int .i64 n.ln, .int .i64 n.cl] 16 144 w1) := by
   show NB _ _ _ _ _ _
   rw [← hw1, ← hH]
   exact nb_first W _ zero16 _
 have hB1 := HN1.out.b
 rw [← hH] at hB1
 have c1 := plain_any (hasB HN0.out HP.out hB1) HTS.out
 obtain ⟨a0, a1, a2, a3, a4, a5, a6⟩ := row7 HN1.out.n
 have HW1 := hid hw1
 have HH := hid hH
 clear hA hK hks hP hE hl hsm hts hRES hw1 hH hB1
 go_enter Tryz.func94, Tryz.ntmps94
 go_upto_region 1 with fail
 rw [HW1.out, HH.out]
 clear HW1
 go_wp2_with fail
 refine c1.mono ?_
 intro e w2 hpl
 rcases hpl with ⟨hx, rfl, hb⟩ | ⟨e, f, hx, rfl, hf, hr, hb⟩
 rotate_left
 · have HX : Hid (RES = .error e) := by
    show _ = _
    rw [HRES.out, hx]
   have HN2 := hid (HN1.out.below hb)
   have HF := hid hf
   have HR := hid hr
   obtain ⟨rs, hk, hrow⟩ := HN2.out.r
   obtain ⟨x0, x1, x2, x3, x4, x5, x6, x7, x8, x9, x10, x11, x12, x13, x14, x15, rfl⟩ := len16 hk
   obtain ⟨y0, y1, y2, y3, y4, y5, y6, y7, y8, y9, y10, y11, y12, y13, y14, y15, yf0, yf1, yf2, yf3, yf4, yf5, yf6, yf7, yf8, yf9, yf10, yf11, yf12, yf13, yf14, yf15⟩ := rowN16 hrow
   clear hx hf hr hb hk hrow c1 a0 a1 a2 a3 a4 a5 a6
   go_wp2_with fail
   exact bodyPost_ret (v := .tuple #[.agg zero16.toArray, .pointer (some ⟨f, 0, none⟩)]) (results_pair rfl _ _ (H + 1) 144 _ (0, 0) _ (.pointer (some ⟨f, 0, none⟩)) rfl (HN2.out.set zero16 rfl) rfl Tryz.underlying144 rfl sizeItem) rfl (Or.inr ⟨e, HX.out, HN2.out.pass zero16 e (by have := HN1.out.sz; have := HF.out; omega) HR.out⟩)
 have HX1 : Hid (RES = match O.read O.flowRules (X.E.as n) with | .error e => .error (e, n.ln, n.cl) | .ok g => .ok ⟨n.ln, n.cl, some ⟨O.get g [105, 100], O.get g [115, 111, 117, 114, 99, 101, 82, 101, 102], O.get g [116, 97, 114, 103, 101, 116, 82, 101, 102]⟩, O.zeroEl, [], false⟩) := by
   show _ = _
   rw [HRES.out, hx]
 have HN2 := hid (HN1.out.below hb)
 clear hx hb c1 a0 a1 a2 a3 a4 a5 a6
 have hmm := @run_makeMap Tryz.prog
 have m0 : RM (w2.alloc (.map #[] 0)) w2.heap.size 0 [] := World.ownsMap_made (H := Unit) w2 Tryz.prog 9 ruleR
 obtain ⟨mw1, mr1, m1, mt1⟩ := RM.put m0 (by unfold maxLen; omega) ⟨#[105, 100]⟩ (by decide) ⟨true, false, []⟩
 have mu1 : (Instr.mapUpdate 99 (.map (some w2.heap.size)) (.string ⟨#[105, 100]⟩) (.agg #[.bool true, .bool false, .string ⟨#[]⟩])).run Tryz.prog (w2.alloc (.map #[] 0)) = .ok () mw1 := mr1
 obtain ⟨mw2, mr2, m2, mt2⟩ := RM.put m1 (by unfold maxLen; omega) ⟨#[115, 111, 117, 114, 99, 101, 82, 101, 102]⟩ (by decide) ⟨true, false, []⟩
 have mu2 : (Instr.mapUpdate 99 (.map (some w2.heap.size)) (.string ⟨#[115, 111, 117, 114, 99, 101, 82, 101, 102]⟩) (.agg #[.bool true, .bool false, .string ⟨#[]⟩])).run Tryz.prog mw1 = .ok () mw2 := mr2
 obtain ⟨mw3, mr3, m3, mt3⟩ := RM.put m2 (by unfold maxLen; omega) ⟨#[116, 97, 114, 103, 101, 116, 82, 101, 102]⟩ (by decide) ⟨true, false, []⟩
 have mu3 : (Instr.mapUpdate 99 (.map (some w2.heap.size)) (.string ⟨#[116, 97, 114, 103, 101, 116, 82, 101, 102]⟩) (.agg #[.bool true, .bool false, .string ⟨#[]⟩])).run Tryz.prog mw2 = .ok () mw3 := mr3
 obtain ⟨mw4, mr4, m4, mt4⟩ := RM.put m3 (by unfold maxLen; omega) ⟨#[110, 97, 109, 101]⟩ (by decide) ⟨false, false, []⟩
 have mu4 : (Instr.mapUpdate 99 (.map (some w2.heap.size)) (.string ⟨#[110, 97, 109, 101]⟩) (.agg #[.bool false, .bool false, .string ⟨#[]⟩])).run Tryz.prog mw3 = .ok () mw4 := mr4
 have mb : Below w2.heap.size w2 mw4 := by
   have b0 : Below w2.heap.size w2 (w2.alloc (.map #[] 0)) := (Below.refl _ w2).alloc (Nat.le_refl _) _
   have g := (((mt1.grown.trans mt2.grown).trans mt3.grown).trans mt4.grown)
   exact b0.grown g b0.size (fun q hq => by simp at hq; omega)
 clear mr1 mr2 mr3 mr4 mt1 mt2 mt3 mt4 m0 m1 m2 m3
 have HN3 := hid (HN2.out.below mb)
 have HM : Hid (RM mw4 w2.heap.size 4 O.flowRules) := m4
 obtain ⟨M, hM⟩ : ∃ M, w2.heap.size = M := ⟨_, rfl⟩
 rw [hM] at HM
 have hB3 := HN3.out.b
 rw [← HH.out] at hB3
 have c2 := read_any (hasB HN0.out HP.out hB3) (fun b hb => Nat.lt_of_lt_of_le (HP.out b hb) hB3.size) HM.out (HE.out.below hB3) HL.out HSM.out (by decide)
 obtain ⟨a0, a1, a2, a3, a4, a5, a6⟩ := row7 HN2.out.n
 have HME := hid hM
 clear mb m4 hB3 hM
 go_upto_region 4 with fail
 go_wp2_with fail
 rw [HME.out]
 refine c2.mono ?_
 intro e w4 hrd
 obtain ⟨A, hA⟩ : ∃ A, w4.heap.size = A := ⟨_, rfl⟩
 rcases hrd with ⟨g, Mv, Mn, hx, rfl, hv1, hn1, hKM, hKN, hb⟩ | ⟨er, ma, mb, f, hx, rfl, hf, hr, hb⟩
 rotate_left
 · have HX : Hid (RES = .error (er, n.ln, n.cl)) := by
    show _ = _
    rw [HX1.out, hx]
   obtain ⟨w5, hw5⟩ : ∃ w5, w4.alloc (.cells #[.map ma, .map mb] 94) = w5 := ⟨_, rfl⟩
   have hb5 : Below w4.heap.size w4 w5 := by rw [← hw5]; exact (Below.refl _ w4).alloc (Nat.le_refl _) _
   have HN5 := hid ((HN3.out.below hb).below hb5)
   have HF := hid hf
   have HR : Hid (w5.heap[f]? = some (faultRow er n.ln n.cl)) := (hb5.block f (Go.lt_of_block hr)).trans hr
   have HW5 := hid hw5
   have HAE := hid hA
   have HS3 := hid HN3.out.sz
   clear hx hf hr hb hb5 hw5 hA c2 a0 a1 a2 a3 a4 a5 a6
   go_upto_region 5 with fail
   rw [HW5.out, HAE.out]
   clear HW5 HAE
   obtain ⟨rs, hk, hrow⟩ := HN5.out.r
   obtain ⟨x0, x1, x2, x3, x4, x5, x6, x7, x8, x9, x10, x11, x12, x13, x14, x15, rfl⟩ := len16 hk
   obtain ⟨y0, y1, y2, y3, y4, y5, y6, y7, y8, y9, y10, y11, y12, y13, y14, y15, yf0, yf1, yf2, yf3, yf4, yf5, yf6, yf7, yf8, yf9, yf10, yf11, yf12, yf13, yf14, yf15⟩ := rowN16 hrow
   clear hk hrow
   go_wp2_with fail
   exact bodyPost_ret (v := .tuple #[.agg zero16.toArray, .pointer (some ⟨f, 0, none⟩)]) (results_pair rfl _ _ (H + 1) 144 _ (0, 0) _ (.pointer (some ⟨f, 0, none⟩)) rfl (HN5.out.set zero16 rfl) rfl Tryz.underlying144 rfl sizeItem) rfl (Or.inr ⟨(er, n.ln, n.cl), HX.out, HN5.out.pass zero16 (er, n.ln, n.cl) (by have := HS3.out; have := HF.out; omega) HR.out⟩)
 have HX : Hid (RES = .ok ⟨n.ln, n.cl, some ⟨O.get g [105, 100], O.get g [115, 111, 117, 114, 99, 101, 82, 101, 102], O.get g [116, 97, 114, 103, 101, 116, 82, 101, 102]⟩, O.zeroEl, [], false⟩) := by
   show _ = _
   rw [HX1.out, hx]
 obtain ⟨w5, hw5⟩ : ∃ w5, w4.alloc (.cells #[.map (some Mv), .map (some Mn)] 94) = w5 := ⟨_, rfl⟩
 have hb5 : Below w4.heap.size w4 w5 := by rw [← hw5]; exact (Below.refl _ w4).alloc (Nat.le_refl _) _
 have HN5 := hid ((HN3.out.below hb).below hb5)
 have hA5 : w5.heap[A]? = some (.cells #[.map (some Mv), .map (some Mn)] 94 (0, 0)) := by rw [← hw5, ← hA]; exact heap_alloc_new w4 _
 have HK5 := hid (hKM.below hb5)
 have k1 := HK5.out.get ⟨#[105, 100]⟩ (by decide)
 have k2 := HK5.out.get ⟨#[115, 111, 117, 114, 99, 101, 82, 101, 102]⟩ (by decide)
 have k3 := HK5.out.get ⟨#[116, 97, 114, 103, 101, 116, 82, 101, 102]⟩ (by decide)
 obtain ⟨t1, ht1⟩ : ∃ t, X.ba (O.get g [105, 100]) = t := ⟨_, rfl⟩
 obtain ⟨t2, ht2⟩ : ∃ t, X.ba (O.get g [115, 111, 117, 114, 99, 101, 82, 101, 102]) = t := ⟨_, rfl⟩
 obtain ⟨t3, ht3⟩ : ∃ t, X.ba (O.get g [116, 97, 114, 103, 101, 116, 82, 101, 102]) = t := ⟨_, rfl⟩
 rw [show X.ba ((X.look g.vals (⟨#[105, 100]⟩ : ByteArray).data.toList).getD []) = t1 from ht1] at k1
 rw [show X.ba ((X.look g.vals (⟨#[115, 111, 117, 114, 99, 101, 82, 101, 102]⟩ : ByteArray).data.toList).getD []) = t2 from ht2] at k2
 rw [show X.ba ((X.look g.vals (⟨#[116, 97, 114, 103, 101, 116, 82, 101, 102]⟩ : ByteArray).data.toList).getD []) = t3 from ht3] at k3
 have HT : Hid (X.ba (O.get g [105, 100]) = t1 ∧ X.ba (O.get g [115, 111, 117, 114, 99, 101, 82, 101, 102]) = t2 ∧ X.ba (O.get g [116, 97, 114, 103, 101, 116, 82, 101, 102]) = t3) := ⟨ht1, ht2, ht3⟩
 obtain ⟨e0, e1⟩ := rowN2' hA5
 obtain ⟨b0, b1, b2, b3, b4, b5, b6⟩ := row7 HN5.out.n
 obtain ⟨F, hF⟩ : ∃ F, w5.heap.size = F := ⟨_, rfl⟩
 obtain ⟨w7, hw7⟩ : ∃ w7, (w5.alloc (.cells #[.string t1, .string t2, .string t3, .string ⟨#[]⟩] 53)).alloc (.cells #[.int .i64 n.ln, .int .i64 n.cl, .pointer (some ⟨F, 0, none⟩), .string ⟨#[]⟩, .string ⟨#[]⟩, .int .u8 0, .string ⟨#[]⟩, .string ⟨#[]⟩, .string ⟨#[]⟩, .int .u8 0, .string ⟨#[]⟩, .string ⟨#[]⟩, .int .i64 0, .int .i64 0, .string ⟨#[]⟩, .slice none 0 0] 144) = w7 := ⟨_, rfl⟩
 have hs6 : (w5.alloc (.cells #[.string t1, .string t2, .string t3, .string ⟨#[]⟩] 53)).heap.size = F + 1 := by simp; omega
 have hb7 : Below w5.heap.size w5 w7 := by rw [← hw7]; exact ((Below.refl _ w5).alloc (Nat.le_refl _) _).alloc (by rw [hs6]; omega) _
 have hx7 : w7.heap[F + 1]? = some (.cells #[.int .i64 n.ln, .int .i64 n.cl, .pointer (some ⟨F, 0, none⟩), .string ⟨#[]⟩, .string ⟨#[]⟩, .int .u8 0, .string ⟨#[]⟩, .string ⟨#[]⟩, .string ⟨#[]⟩, .int .u8 0, .string ⟨#[]⟩, .string ⟨#[]⟩, .int .i64 0, .int .i64 0, .string ⟨#[]⟩, .slice none 0 0] 144 (0, 0)) := by rw [← hw7, ← hs6]; exact heap_alloc_new _ _
 have HF7 : Hid (w7.heap[F]? = some (.cells #[.string t1, .string t2, .string t3, .string ⟨#[]⟩] 53 (0, 0))) := by
   show _ = _
   rw [← hw7, Go.Lib.alloc_old _ _ _ (by rw [hs6]; omega), ← hF]
   exact heap_alloc_new w5 _
 have HN7 := hid (HN5.out.below hb7)
 have HS5 := hid HN5.out.sz
 have HFE := hid hF
 have HW5 := hid hw5
 have HAE := hid hA
 have HW7 := hid hw7
 have HX7 := hid hx7
 clear hx hv1 hn1 hKM hKN hb hb5 hw5 hA hA5 ht1 ht2 ht3 hF hw7 hs6 hb7 hx7 c2 a0 a1 a2 a3 a4 a5 a6
 go_upto_region 5 with fail
 rw [HW5.out, HAE.out]
 clear HW5 HAE
 go_upto_region 8 with fail
 rw [HFE.out, HW7.out]
 clear HW7 b0 b1 b2 b3 b4 b5 b6 k1 k2 k3 e0 e1
 obtain ⟨-, -, -, b3, -, -, -⟩ := row7 HN7.out.n
 obtain ⟨x0, x1, x2, x3, x4, x5, x6, x7, x8, x9, x10, x11, x12, x13, x14, x15, -⟩ := rowN16 HX7.out
 obtain ⟨rs, hk, hrow⟩ := HN7.out.r
 obtain ⟨r0, r1, r2, r3, r4, r5, r6, r7, r8, r9, r10, r11, r12, r13, r14, r15, rfl⟩ := len16 hk
 obtain ⟨y0, y1, y2, y3, y4, y5, y6, y7, y8, y9, y10, y11, y12, y13, y14, y15, yf0, yf1, yf2, yf3, yf4, yf5, yf6, yf7, yf8, yf9, yf10, yf11, yf12, yf13, yf14, yf15⟩ := rowN16 hrow
 clear hk hrow
 go_wp2_with fail
 go_loopw [51] (fun vi wr => vi = .int .i64 0 ∧ Hid (wr = w7)) (fun _ _ => 0)
 case atStart => exact ⟨rfl, hid rfl⟩
 case round =>
   obtain ⟨rfl, hwr⟩ := hrel
   obtain rfl := hwr.out.symm
   go_wp2_with fail
   exact bodyPost_ret (v := .tuple #[.agg #[.int .i64 n.ln, .int .i64 n.cl, .pointer (some ⟨F, 0, none⟩), .string ⟨#[]⟩, .string ⟨#[]⟩, .int .u8 0, .string ⟨#[]⟩, .string ⟨#[]⟩, .string ⟨#[]⟩, .int .u8 0, .string ⟨#[]⟩, .string ⟨#[]⟩, .int .i64 0, .int .i64 0, .string ⟨#[]⟩, .slice none 0 0], .pointer none]) (results_pair rfl _ _ (H + 1) 144 _ (0, 0) _ (.pointer none) rfl (HN7.out.set [.int .i64 n.ln, .int .i64 n.cl, .pointer (some ⟨F, 0, none⟩), .string ⟨#[]⟩, .string ⟨#[]⟩, .int .u8 0, .string ⟨#[]⟩, .string ⟨#[]⟩, .string ⟨#[]⟩, .int .u8 0, .string ⟨#[]⟩, .string ⟨#[]⟩, .int .i64 0, .int .i64 0, .string ⟨#[]⟩, .slice none 0 0] rfl) rfl Tryz.underlying144 rfl sizeItem) rfl (HN7.out.item (B := F) (by have := HS5.out; have := HFE.out; omega) HX.out (flow_item HF7.out (Nat.le_refl _) HT.out.1 HT.out.2.1 HT.out.2.2))
end Go.Proofs.YteejphiklpnjhaaGreatDoor
