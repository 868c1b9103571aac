/- An element that holds nothing: rest, excl. -/
import Derived.Test.YteejphiklpnjhaaGreatDoorOElemH
namespace Go.Proofs.YteejphiklpnjhaaGreatDoor
set_option maxRecDepth 100000
set_option maxHeartbeats 16000000
open Go.RowKit Go.Maps
open Go.Lib (hid)
theorem elem_rest {P : Nat → Prop} {W : World} {n : X.E} {cs : List Value} (ok : NodeOk W P n cs) (q1 : (n.sp.toList == [104, 116, 116, 112, 58, 47, 47, 119, 119, 119, 46, 111, 109, 103, 46, 111, 114, 103, 47, 115, 112, 101, 99, 47, 66, 80, 77, 78, 47, 50, 48, 49, 48, 48, 53, 50, 52, 47, 77, 79, 68, 69, 76]) = true) (q2 : (n.lo.toList == [115, 101, 113, 117, 101, 110, 99, 101, 70, 108, 111, 119]) = false) {kd : Nat} (hk : X.lookG kindsL n.lo.data.toList = some kd) (g4 : ((kd : Int) == 4) = false) (g5 : ((kd : Int) == 5) = false) (g9 : ((kd : Int) == 9) = false) (g11 : ((kd : Int) != 10) = true) (q3 : (n.lo.toList == [99, 97, 108, 108, 65, 99, 116, 105, 118, 105, 116, 121]) = false) (hp : plainE n = none) {RES : Except O.Er O.It} (HRES : RES = match O.read [([110, 97, 109, 101], ⟨false, false, []⟩), ([105, 100], ⟨true, false, []⟩)] (X.E.as n) with | .error e => .error (e, n.ln, n.cl) | .ok g => .ok ⟨n.ln, n.cl, none, ⟨O.get g [105, 100], O.get g [110, 97, 109, 101], kd, [], O.get g [100, 101, 102, 97, 117, 108, 116], O.get g [97, 116, 116, 97, 99, 104, 101, 100, 84, 111, 82, 101, 102], 0⟩, O.get g [99, 97, 108, 108, 101, 100, 69, 108, 101, 109, 101, 110, 116], false⟩) :
   Calls Tryz.prog 68 #[.agg cs.toArray] W (ItOf W RES) := by
 have OK := hid ok
 obtain ⟨av, kv, rfl, hA, hK⟩ := ok.has
 obtain ⟨ka, kc, rfl⟩ : ∃ a c, kv = .slice a 0 c := by
   have := hK.shape
   rw [ok.k] at this
   exact this
 obtain ⟨H, hH⟩ : ∃ H, W.heap.size = H := ⟨_, rfl⟩
 obtain ⟨w1, hw1⟩ : ∃ w1, (W.alloc (.cells #[.string n.sp, .string n.lo, av, .slice ka 0 kc, .string n.tx, .int .i64 n.ln, .int .i64 n.cl] 44)).alloc (.cells #[.int .i64 0, .int .i64 0, .pointer none, .string ⟨#[]⟩, .string ⟨#[]⟩, .int .u8 0, .string ⟨#[]⟩, .string ⟨#[]⟩, .string ⟨#[]⟩, .int .u8 0, .string ⟨#[]⟩, .string ⟨#[]⟩, .int .i64 0, .int .i64 0, .string ⟨#[]⟩, .slice none 0 0] 144) = w1 := ⟨_, rfl⟩
 have HN1 : Hid (NB W H [.string n.sp, .string n.lo, av, .slice ka 0 kc, .string n.tx, .int .i64 n.ln, .int .i64 n.cl] 16 144 w1) := by
   show NB _ _ _ _ _ _
   rw [← hw1, ← hH]
   exact nb_first W _ zero16 _
 have HB1 : Hid (Below W.heap.size W w1) := by
   have := HN1.out.b
   rw [← hH] at this
   exact this
 obtain ⟨a0, a1, a2, a3, a4, a5, a6⟩ := row7 HN1.out.n
 have HW1 := hid hw1
 have HH := hid hH
 clear hA hK ok hw1 hH
 have HX1 := hid HRES
 have HP := hid hp
 clear hp HRES
 go_enter Tryz.func68, Tryz.ntmps68
 go_upto_region 1 with fail
 rw [HW1.out, HH.out]
 clear HW1
 have HLT : Hid (H < w1.heap.size) := by have := HN1.out.sz; show _ < _; omega
 go_upto_region 3 with fail
 go_region_held3 (fun w' => w'.cell? ⟨H, 1, none⟩ = some (.string n.lo))
   (first
    | assumption
    | with_reducible exact cellBd hb2 HLT.out a1
    | fail)
   (first
    | (go_at_call 95; refine (kinds_any w1.drew).mono ?_; rintro e w2 ⟨rfl, hku, hb2⟩; have hlk : (Instr.lookup 176 (.map (some w1.heap.size)) (.string n.lo) true).run Tryz.prog w2 = .ok (.tuple #[.int .u8 kd, .bool true]) w2 := hku.look_some n.lo (by have := OK.out.o; omega) hk)
    | fail)
 have hb2' : Below w1.heap.size w1 w2 := ((Below.refl _ w1).drew).trans hb2
 have HN2 := hid (HN1.out.below hb2')
 have HB2 := hid (HB1.out.trans (hb2'.mono HB1.out.size))
 clear hb2 hb2' hku hlk a0 a1 a2 a3 a4 a5 a6
 have cP := plain_any (hasB OK.out.has OK.out.p HB2.out) OK.out.t
 rw [HP.out] at cP
 obtain ⟨b0, b1, b2, b3, b4, b5, b6⟩ := row7 HN2.out.n
 go_wp2_with fail
 refine cP.mono ?_
 rintro en w3 (⟨-, rfl, hb⟩ | ⟨e', f, h, -, -⟩)
 rotate_left
 · cases h
 have HN3 := hid (HN2.out.below hb)
 have HB3 := hid (HB2.out.trans (hb.mono HB2.out.size))
 clear hb cP b0 b1 b2 b3 b4 b5 b6
 obtain ⟨b0, b1, b2, b3, b4, b5, b6⟩ := row7 HN3.out.n
 have hmm := @run_makeMap Tryz.prog
 have m0 : RM (w3.alloc (.map #[] 0)) w3.heap.size 0 [] := World.ownsMap_made (H := Unit) w3 Tryz.prog 9 ruleR
 obtain ⟨mw1, mr1, m1, mt1⟩ := RM.put m0 (by unfold maxLen; omega) ⟨#[105, 100]⟩ (by decide) ⟨true, false, []⟩
 have mu1 : (Instr.mapUpdate 99 (.map (some w3.heap.size)) (.string ⟨#[105, 100]⟩) (.agg #[.bool true, .bool false, .string ⟨#[]⟩])).run Tryz.prog (w3.alloc (.map #[] 0)) = .ok () mw1 := mr1
 obtain ⟨mw2, mr2, m2, mt2⟩ := RM.put m1 (by unfold maxLen; omega) ⟨#[110, 97, 109, 101]⟩ (by decide) ⟨false, false, []⟩
 have mu2 : (Instr.mapUpdate 99 (.map (some w3.heap.size)) (.string ⟨#[110, 97, 109, 101]⟩) (.agg #[.bool false, .bool false, .string ⟨#[]⟩])).run Tryz.prog mw1 = .ok () mw2 := mr2
 have mb : Below w3.heap.size w3 mw2 := by
   have b0 : Below w3.heap.size w3 (w3.alloc (.map #[] 0)) := (Below.refl _ w3).alloc (Nat.le_refl _) _
   have g := (mt1.grown.trans mt2.grown)
   exact b0.grown g b0.size (fun q hq => by simp at hq; omega)
 clear mr1 mr2 mt1 mt2 m0 m1
 have HN4 := hid (HN3.out.below mb)
 have HB4 := hid (HB3.out.trans (mb.mono HB3.out.size))
 have HM : Hid (RM mw2 w3.heap.size 2 [([110, 97, 109, 101], ⟨false, false, []⟩), ([105, 100], ⟨true, false, []⟩)]) := m2
 obtain ⟨M, hM⟩ : ∃ M, w3.heap.size = M := ⟨_, rfl⟩
 rw [hM] at HM
 have c2 := read_any (hasB OK.out.has OK.out.p HB4.out) (fun b hb => Nat.lt_of_lt_of_le (OK.out.p b hb) HB4.out.size) HM.out (OK.out.e.below HB4.out) OK.out.l OK.out.s (by decide)
 have HME := hid hM
 have HS4 := hid HN4.out.sz
 clear mb m2 hM
 obtain ⟨c0, c1, c3, c4, c5, c6, c7⟩ := row7 HN4.out.n
 go_wp2_with fail
 rw [HME.out]
 refine c2.mono ?_
 clear c0 c1 c3 c4 c5 c6 c7
 intro en w5 hrd
 obtain ⟨A, hA⟩ : ∃ A, w5.heap.size = A := ⟨_, rfl⟩
 rcases hrd with ⟨g, Mv, Mn, hx, rfl, hv1, hn1, hKM, hKN, hb⟩ | ⟨er, ma, mc, f, hx, rfl, hf, hr, hb⟩
 rotate_left
 · have HX : Hid (RES = .error (er, n.ln, n.cl)) := by
    show _ = _
    rw [HX1.out, hx]
   obtain ⟨w6, hw6⟩ : ∃ w6, w5.alloc (.cells #[.map ma, .map mc] 94) = w6 := ⟨_, rfl⟩
   have hb6 : Below w5.heap.size w5 w6 := by rw [← hw6]; exact (Below.refl _ w5).alloc (Nat.le_refl _) _
   have HN6 := hid ((HN4.out.below hb).below hb6)
   have HF := hid hf
   have HR : Hid (w6.heap[f]? = some (faultRow er n.ln n.cl)) := (hb6.block f (Go.lt_of_block hr)).trans hr
   have HW6 := hid hw6
   have HAE := hid hA
   clear hx hf hr hb hb6 hw6 hA c2 b0 b1 b2 b3 b4 b5 b6
   go_upto_region 20 with fail
   rw [HW6.out, HAE.out]
   clear HW6 HAE
   obtain ⟨rs, hk, hrow⟩ := HN6.out.r
   obtain ⟨x0, x1, x2, x3, x4, x5, x6, x7, x8, x9, x10, x11, x12, x13, x14, x15, rfl⟩ := len16 hk
   obtain ⟨y0, y1, y2, y3, y4, y5, y6, y7, y8, y9, y10, y11, y12, y13, y14, y15, yf0, yf1, yf2, yf3, yf4, yf5, yf6, yf7, yf8, yf9, yf10, yf11, yf12, yf13, yf14, yf15⟩ := rowN16 hrow
   clear hk hrow
   go_wp2_with fail
   exact bodyPost_ret (v := .tuple #[.agg zero16.toArray, .pointer (some ⟨f, 0, none⟩)]) (results_pair rfl _ _ (H + 1) 144 _ (0, 0) _ (.pointer (some ⟨f, 0, none⟩)) rfl (HN6.out.set zero16 rfl) rfl Tryz.underlying144 rfl sizeItem) rfl (Or.inr ⟨(er, n.ln, n.cl), HX.out, HN6.out.pass zero16 (er, n.ln, n.cl) (by have := HS4.out; have := HF.out; omega) HR.out⟩)
 have HX : Hid (RES = .ok ⟨n.ln, n.cl, none, ⟨O.get g [105, 100], O.get g [110, 97, 109, 101], kd, [], O.get g [100, 101, 102, 97, 117, 108, 116], O.get g [97, 116, 116, 97, 99, 104, 101, 100, 84, 111, 82, 101, 102], 0⟩, O.get g [99, 97, 108, 108, 101, 100, 69, 108, 101, 109, 101, 110, 116], false⟩) := by
   show _ = _
   rw [HX1.out, hx]
 obtain ⟨w6, hw6⟩ : ∃ w6, w5.alloc (.cells #[.map (some Mv), .map (some Mn)] 94) = w6 := ⟨_, rfl⟩
 have hb6 : Below w5.heap.size w5 w6 := by rw [← hw6]; exact (Below.refl _ w5).alloc (Nat.le_refl _) _
 have HN6 := hid ((HN4.out.below hb).below hb6)
 have HB6 := hid ((HB4.out.trans (hb.mono HB4.out.size)).trans (hb6.mono ((HB4.out.trans (hb.mono HB4.out.size)).size)))
 have HA6 : Hid (w6.heap[A]? = some (.cells #[.map (some Mv), .map (some Mn)] 94 (0, 0))) := by show _ = _; rw [← hw6, ← hA]; exact heap_alloc_new w5 _
 have HK6 := hid (hKM.below hb6)
 have HKN6 := hid (hKN.below hb6)
 obtain ⟨t1, ht1⟩ : ∃ t, X.ba (O.get g [105, 100]) = t := ⟨_, rfl⟩
 obtain ⟨t2, ht2⟩ : ∃ t, X.ba (O.get g [110, 97, 109, 101]) = t := ⟨_, rfl⟩
 obtain ⟨t3, ht3⟩ : ∃ t, X.ba (O.get g [100, 101, 102, 97, 117, 108, 116]) = t := ⟨_, rfl⟩
 obtain ⟨t4, ht4⟩ : ∃ t, X.ba (O.get g [97, 116, 116, 97, 99, 104, 101, 100, 84, 111, 82, 101, 102]) = t := ⟨_, rfl⟩
 obtain ⟨t5, ht5⟩ : ∃ t, X.ba (O.get g [99, 97, 108, 108, 101, 100, 69, 108, 101, 109, 101, 110, 116]) = t := ⟨_, rfl⟩
 have HT := hid (And.intro ht1 (And.intro ht2 (And.intro ht3 (And.intro ht4 ht5))))
 have k5 := HK6.out.get ⟨#[99, 97, 108, 108, 101, 100, 69, 108, 101, 109, 101, 110, 116]⟩ (by decide)
 rw [show X.ba ((X.look g.vals (⟨#[99, 97, 108, 108, 101, 100, 69, 108, 101, 109, 101, 110, 116]⟩ : ByteArray).data.toList).getD []) = t5 from ht5] at k5
 obtain ⟨X0, hX0⟩ : ∃ X, w6.heap.size = X := ⟨_, rfl⟩
 obtain ⟨w7, hw7⟩ : ∃ w7, w6.alloc (.cells #[.int .i64 n.ln, .int .i64 n.cl, .pointer none, .string ⟨#[]⟩, .string ⟨#[]⟩, .int .u8 0, .string ⟨#[]⟩, .string ⟨#[]⟩, .string ⟨#[]⟩, .int .u8 0, .string ⟨#[]⟩, .string ⟨#[]⟩, .int .i64 0, .int .i64 0, .string t5, .slice none 0 0] 144) = w7 := ⟨_, rfl⟩
 have hb7 : Below w6.heap.size w6 w7 := by rw [← hw7]; exact (Below.refl _ w6).alloc (Nat.le_refl _) _
 have HX7 : Hid (w7.heap[X0]? = some (.cells #[.int .i64 n.ln, .int .i64 n.cl, .pointer none, .string ⟨#[]⟩, .string ⟨#[]⟩, .int .u8 0, .string ⟨#[]⟩, .string ⟨#[]⟩, .string ⟨#[]⟩, .int .u8 0, .string ⟨#[]⟩, .string ⟨#[]⟩, .int .i64 0, .int .i64 0, .string t5, .slice none 0 0] 144 (0, 0))) := by show _ = _; rw [← hw7, ← hX0]; exact heap_alloc_new _ _
 have HN7 := hid (HN6.out.below hb7)
 have HB7 := hid (HB6.out.trans (hb7.mono HB6.out.size))
 have HA7 : Hid (w7.heap[A]? = some (.cells #[.map (some Mv), .map (some Mn)] 94 (0, 0))) := (hb7.block A (Go.lt_of_block HA6.out)).trans HA6.out
 have HK7 := hid (HK6.out.below hb7)
 have HKN7 := hid (HKN6.out.below hb7)
 have k1 := HK7.out.get ⟨#[105, 100]⟩ (by decide)
 rw [show X.ba ((X.look g.vals (⟨#[105, 100]⟩ : ByteArray).data.toList).getD []) = t1 from ht1] at k1
 have k2 := HK7.out.get ⟨#[110, 97, 109, 101]⟩ (by decide)
 rw [show X.ba ((X.look g.vals (⟨#[110, 97, 109, 101]⟩ : ByteArray).data.toList).getD []) = t2 from ht2] at k2
 have k3 := HK7.out.get ⟨#[100, 101, 102, 97, 117, 108, 116]⟩ (by decide)
 rw [show X.ba ((X.look g.vals (⟨#[100, 101, 102, 97, 117, 108, 116]⟩ : ByteArray).data.toList).getD []) = t3 from ht3] at k3
 have k4 := HK7.out.get ⟨#[97, 116, 116, 97, 99, 104, 101, 100, 84, 111, 82, 101, 102]⟩ (by decide)
 rw [show X.ba ((X.look g.vals (⟨#[97, 116, 116, 97, 99, 104, 101, 100, 84, 111, 82, 101, 102]⟩ : ByteArray).data.toList).getD []) = t4 from ht4] at k4
 obtain ⟨w8, hw8⟩ : ∃ w8, ((((((((((w7.setCell ⟨X0, 3, none⟩ (.string t1)).setCell ⟨X0, 4, none⟩ (.string t2)).setCell ⟨X0, 5, none⟩ (.int .u8 kd)).setCell ⟨X0, 6, none⟩ (.string ⟨#[]⟩)).setCell ⟨X0, 7, none⟩ (.string t3)).setCell ⟨X0, 8, none⟩ (.string t4)).setCell ⟨X0, 9, none⟩ (.int .u8 0)).setCell ⟨X0, 10, none⟩ (.string ⟨#[]⟩)).setCell ⟨X0, 11, none⟩ (.string ⟨#[]⟩)).setCell ⟨X0, 12, none⟩ (.int .i64 0)).setCell ⟨X0, 13, none⟩ (.int .i64 0) = w8 := ⟨_, rfl⟩
 have hs8 : sts w7 X0 3 [.string t1, .string t2, .int .u8 kd, .string ⟨#[]⟩, .string t3, .string t4, .int .u8 0, .string ⟨#[]⟩, .string ⟨#[]⟩, .int .i64 0, .int .i64 0] = w8 := hw8
 have HX8 : Hid (w8.heap[X0]? = some (.cells #[.int .i64 n.ln, .int .i64 n.cl, .pointer none, .string t1, .string t2, .int .u8 kd, .string ⟨#[]⟩, .string t3, .string t4, .int .u8 0, .string ⟨#[]⟩, .string ⟨#[]⟩, .int .i64 0, .int .i64 0, .string t5, .slice none 0 0] 144 (0, 0))) := by
   show _ = _
   rw [← hs8]
   exact sts_mid [.string t1, .string t2, .int .u8 kd, .string ⟨#[]⟩, .string t3, .string t4, .int .u8 0, .string ⟨#[]⟩, .string ⟨#[]⟩, .int .i64 0, .int .i64 0] [.int .i64 n.ln, .int .i64 n.cl, .pointer none] [.string ⟨#[]⟩, .string ⟨#[]⟩, .int .u8 0, .string ⟨#[]⟩, .string ⟨#[]⟩, .string ⟨#[]⟩, .int .u8 0, .string ⟨#[]⟩, .string ⟨#[]⟩, .int .i64 0, .int .i64 0] [.string t5, .slice none 0 0] w7 HX7.out rfl
 have hg8 : w7.grownBy w8 (some X0) := by rw [← hs8]; exact sts_grown _ _ _ _
 have HX0 : Hid (H + 2 ≤ X0 ∧ A < X0 ∧ Mv < X0 ∧ Mn < X0) := by
   show _ ∧ _ ∧ _ ∧ _
   rw [← hX0]
   exact ⟨HN6.out.sz, Go.lt_of_block HA6.out, World.ownsMap.lt HK6.out, World.ownsMap.lt HKN6.out⟩
 have HN8 := hid (HN7.out.grown hg8 HX0.out.1)
 have HB8 := hid (HB7.out.grown hg8 HB7.out.size (fun k hk => by have := Option.some.inj hk; have := HN7.out.h; have := HX0.out.1; omega))
 have HA8 : Hid (w8.heap[A]? = some (.cells #[.map (some Mv), .map (some Mn)] 94 (0, 0))) := (hg8.block A (Go.lt_of_block HA7.out) (fun e => by have := Option.some.inj e; have := HX0.out.2.1; omega)).trans HA7.out
 have HKN8 := hid (HKN7.out.grown hg8 (fun e => by have := Option.some.inj e; have := HX0.out.2.2.2; omega))
 have HW6 := hid hw6
 have HAE := hid hA
 have HX0E := hid hX0
 have HW7 := hid hw7
 have HW8 := hid hw8
 clear hx hv1 hn1 hKM hKN hb hb6 hw6 hA ht1 ht2 ht3 ht4 ht5 hX0 hw7 hb7 hw8 hs8 hg8 c2 b0 b1 b2 b3 b4 b5 b6
 obtain ⟨e0, e1⟩ := rowN2' HA6.out
 obtain ⟨b0, b1, b2, b3, b4, b5, b6⟩ := row7 HN6.out.n
 go_upto_region 20 with fail
 rw [HW6.out, HAE.out]
 clear HW6 HAE
 go_upto_region 23 with fail
 rw [HX0E.out, HW7.out]
 clear HW7 HX0E b0 b1 b2 b3 b4 b5 b6 e0 e1 k5
 obtain ⟨e0, e1⟩ := rowN2' HA7.out
 obtain ⟨x0, x1, x2, x3, x4, x5, x6, x7, x8, x9, x10, x11, x12, x13, x14, x15, xf0, xf1, xf2, xf3, xf4, xf5, xf6, xf7, xf8, xf9, xf10, xf11, xf12, xf13, xf14, xf15⟩ := rowN16 HX7.out
 go_upto_region 24 with fail
 rw [HW8.out]
 clear HW8 k1 k2 k3 k4 e0 e1 x0 xf0 x1 xf1 x2 xf2 x3 xf3 x4 xf4 x5 xf5 x6 xf6 x7 xf7 x8 xf8 x9 xf9 x10 xf10 x11 xf11 x12 xf12 x13 xf13 x14 xf14 x15 xf15
 go_upto_region 32 with fail
 refine wp_region_till (S := (fun W : World => W.heap[X0]? = some (.cells #[.int .i64 n.ln, .int .i64 n.cl, .pointer none, .string t1, .string t2, .int .u8 kd, .string ⟨#[]⟩, .string t3, .string t4, .int .u8 0, .string ⟨#[]⟩, .string ⟨#[]⟩, .int .i64 0, .int .i64 0, .string t5, .slice none 0 0] 144 (0, 0)) ∧ W.heap[H]? = some (.cells #[.string n.sp, .string n.lo, av, .slice ka 0 kc, .string n.tx, .int .i64 n.ln, .int .i64 n.cl] 44 (0, 0)))) 4 (by kernel_rfl) ?_
 have HS := hid (show ((fun W : World => W.heap[X0]? = some (.cells #[.int .i64 n.ln, .int .i64 n.cl, .pointer none, .string t1, .string t2, .int .u8 kd, .string ⟨#[]⟩, .string t3, .string t4, .int .u8 0, .string ⟨#[]⟩, .string ⟨#[]⟩, .int .i64 0, .int .i64 0, .string t5, .slice none 0 0] 144 (0, 0)) ∧ W.heap[H]? = some (.cells #[.string n.sp, .string n.lo, av, .slice ka 0 kc, .string n.tx, .int .i64 n.ln, .int .i64 n.cl] 44 (0, 0)))) _ from ⟨HX8.out, HN8.out.n⟩)
 refine wpTill_any 2 (oi := ?oi1) (v := ?v1) ?ho1 (by kernel_rfl) (by kernel_rfl) (by kernel_rfl) (by kernel_rfl) ?hq1 (Or.inl ⟨?hw1, ?hy1⟩) (fun _ => HS.out) ?rest1
 case ho1 => rfl
 case hw1 => rfl
 case hy1 => intro w; go_simp; try with_reducible rfl
 case hq1 => exact fun _ _ _ h => h
 refine wpTill_load 0 [0, 4] (oi := ?oi2) (v := ?v2) ?ho2 (by kernel_rfl) (by kernel_rfl) (by kernel_rfl) (by kernel_rfl) ?hq2 (Or.inl ⟨?hw2, ?hy2⟩) HS.out ?rest2
 case ho2 => rfl
 case hw2 => rfl
 case hy2 =>
   intro w hSw
   obtain ⟨x0, x1, x2, x3, x4, x5, x6, x7, x8, x9, x10, x11, x12, x13, x14, x15, -⟩ := rowN16 hSw.1
   clear hSw
   go_simp
   try with_reducible rfl
 case hq2 => exact fun _ _ _ h => h
 refine wpTill_load 1 [1, 3, 4] (oi := ?oi3) (v := ?v3) ?ho3 (by kernel_rfl) (by kernel_rfl) (by kernel_rfl) (by kernel_rfl) ?hq3 (Or.inl ⟨?hw3, ?hy3⟩) HS.out ?rest3
 case ho3 => rfl
 case hw3 => rfl
 case hy3 =>
   intro w hSw
   obtain ⟨b0, b1, b2, b3, b4, b5, b6⟩ := row7 hSw.2
   clear hSw
   go_simp
   try with_reducible rfl
 case hq3 => exact fun _ _ _ h => h
 refine wpTill_ready (rs := [3]) (by kernel_rfl) (by decide) ?_
 refine AllTill.consH (o := ?oi4) ?ho4 (fun K hK => ?step4) ?more4
 case ho4 => rfl
 case step4 =>
   go_simp
   refine (oinside_any (hasB OK.out.has OK.out.p HB8.out.drew) OK.out.k _).mono ?_
   rintro e w9 ⟨rfl, hb9⟩
   have HS9 := hid (fromDrew hb9)
   have HN9 := hid (HN8.out.below HS9.out)
   obtain ⟨rs, hrk, hrow⟩ := HN9.out.r
   obtain ⟨r0, r1, r2, r3, r4, r5, r6, r7, r8, r9, r10, r11, r12, r13, r14, r15, rfl⟩ := len16 hrk
   obtain ⟨y0, y1, y2, y3, y4, y5, y6, y7, y8, y9, y10, y11, y12, y13, y14, y15, yf0, yf1, yf2, yf3, yf4, yf5, yf6, yf7, yf8, yf9, yf10, yf11, yf12, yf13, yf14, yf15⟩ := rowN16 hrow
   clear hrk hrow hb9
   try dsimp only
   refine hK.out _ _ (fun _ => ⟨(HS9.out.block _ (Go.lt_of_block HX8.out)).trans HX8.out, HN9.out.n⟩) (fun hHeld => ?_)
   have HS4 := hid (hHeld (by kernel_rfl))
   clear hHeld hK K
   refine wpTill_ready (rs := [4]) (by kernel_rfl) (by decide) ?_
   refine AllTill.consH (o := ?oi5) ?ho5 (fun K hK => ?step5) ?more5
   case ho5 => rfl
   case step5 =>
    go_simp
    refine hK.out _ _ (fun hk => by cases (show true = false from hk)) (fun _ => ?_)
    clear hK K
    refine wpTill_any 5 (oi := ?oi6) (v := ?v6) ?ho6 (by kernel_rfl) (by kernel_rfl) (by kernel_rfl) (by kernel_rfl) ?hq6 (Or.inl ⟨?hw6, ?hy6⟩) (fun hk => by cases (show true = false from hk)) ?rest6
    case ho6 => rfl
    case hw6 => rfl
    case hy6 => intro w; go_simp; try with_reducible rfl
    case hq6 => exact fun _ _ _ h => h
    refine wpTill_done (by kernel_rfl) ?_ _
    clear y0 yf0 y1 yf1 y2 yf2 y3 yf3 y4 yf4 y5 yf5 y6 yf6 y7 yf7 y8 yf8 y9 yf9 y10 yf10 y11 yf11 y12 yf12 y13 yf13 y14 yf14 y15 yf15
    go_wp2_with fail
    exact bodyPost_ret (v := .tuple #[.agg #[.int .i64 n.ln, .int .i64 n.cl, .pointer none, .string t1, .string t2, .int .u8 kd, .string ⟨#[]⟩, .string t3, .string t4, .int .u8 0, .string ⟨#[]⟩, .string ⟨#[]⟩, .int .i64 0, .int .i64 0, .string t5, .slice none 0 0], .pointer none]) (results_pair rfl _ _ (H + 1) 144 _ (0, 0) _ (.pointer none) rfl (HN9.out.set [.int .i64 n.ln, .int .i64 n.cl, .pointer none, .string t1, .string t2, .int .u8 kd, .string ⟨#[]⟩, .string t3, .string t4, .int .u8 0, .string ⟨#[]⟩, .string ⟨#[]⟩, .int .i64 0, .int .i64 0, .string t5, .slice none 0 0] rfl) rfl Tryz.underlying144 rfl sizeItem) rfl (HN9.out.item (B := w9.heap.size) (by have := HN9.out.sz; omega) HX.out (el_item (by rw [← HT.out.1, ← HT.out.2.1, ← HT.out.2.2.1, ← HT.out.2.2.2.1, ← HT.out.2.2.2.2]; rfl)))
   case more5 =>
    exact AllTill.nil
 case more4 =>
   exact AllTill.nil
end Go.Proofs.YteejphiklpnjhaaGreatDoor
