/- A process: its attributes, and what is in it. -/
import Derived.Test.YteejphiklpnjhaaGreatDoorOProcH
namespace Go.Proofs.YteejphiklpnjhaaGreatDoor
set_option maxRecDepth 100000
set_option maxHeartbeats 16000000
open Go.RowKit Go.Maps
open Go.Lib (hid)
theorem proc_ok {P Pa : Nat → Prop} {W : World} {n : X.E} {cs : List Value} {l : List O.Pr} {lv : Value} (ok : KidOk W P n cs) (hks : O.fitN n.ks = true) (hkl : n.ks.length ≤ 2000) (hlv : PrsIn W Pa l lv) (hPa : ∀ b, Pa b → b < W.heap.size) (hll : l.length ≤ 100000) (q1 : (n.sp.toList == [104, 116, 116, 112, 58, 47, 47, 119, 119, 119, 46, 111, 109, 103, 46, 111, 114, 103, 47, 115, 112, 101, 99, 47, 66, 80, 77, 78, 47, 50, 48, 49, 48, 48, 53, 50, 52, 47, 77, 79, 68, 69, 76]) = true) (q2 : (n.lo.toList == [112, 114, 111, 99, 101, 115, 115]) = true) (hp : plainE n = none) {RES : Except O.Er O.Pr} (HRES : RES = match O.read [([105, 115, 69, 120, 101, 99, 117, 116, 97, 98, 108, 101], ⟨false, false, []⟩), ([110, 97, 109, 101], ⟨false, false, []⟩), ([105, 100], ⟨true, false, []⟩)] (X.E.as n) with | .error e => .error (e, n.ln, n.cl) | .ok g => if l.any (fun q => decide (q.id = O.get g [105, 100])) then .error (6, n.ln, n.cl) else match O.things n.ks [] [] with | .error e => .error e | .ok (v, i) => .ok ⟨O.get g [105, 100], O.get g [110, 97, 109, 101], v, i⟩) :
   Calls Tryz.prog 43 #[.agg cs.toArray, lv] W (PrOf W RES) := by
 have OK := hid ok
 have HX1 := hid HRES
 have HKS := hid hks
 have HKL := hid hkl
 have HLV := hid hlv
 have HPA := hid hPa
 have HLN := hid hll
 clear HRES hks hkl hlv hPa hll
 obtain ⟨av, kv, rfl, hA, hK⟩ := ok.has
 obtain ⟨ka, kc, rfl⟩ := hK.shape
 obtain ⟨L, hL⟩ : ∃ L, n.ks.length = L := ⟨_, rfl⟩
 rw [hL] at OK hK ⊢
 obtain ⟨H, hH⟩ : ∃ H, W.heap.size = H := ⟨_, rfl⟩
 obtain ⟨w1, hw1⟩ : ∃ w1, (W.alloc (.cells #[.string n.sp, .string n.lo, av, .slice ka L kc, .string n.tx, .int .i64 n.ln, .int .i64 n.cl] 44)).alloc (.cells #[.string ⟨#[]⟩, .string ⟨#[]⟩, .slice none 0 0, .slice none 0 0] 106) = w1 := ⟨_, rfl⟩
 have HN1 : Hid (NB W H [.string n.sp, .string n.lo, av, .slice ka L kc, .string n.tx, .int .i64 n.ln, .int .i64 n.cl] 4 106 w1) := by
   show NB _ _ _ _ _ _
   rw [← hw1, ← hH]
   exact nb_first W _ zero4 _
 have HB1 : Hid (Below W.heap.size W w1) := by
   have := HN1.out.b
   rw [← hH] at this
   exact this
 obtain ⟨a0, a1, a2, a3, a4, a5, a6⟩ := row7 HN1.out.n
 have HW1 := hid hw1
 have HH := hid hH
 have cP := plain_any (hasB OK.out.has OK.out.p HB1.out) OK.out.t
 have HLL := hid hL
 have HKI := hid hK
 clear hA hK ok hw1 hH hL
 go_enter Tryz.func43, Tryz.ntmps43
 go_upto_region 1 with fail
 rw [HW1.out, HH.out]
 clear HW1
 rw [hp] at cP
 clear hp
 go_wp2_with fail
 refine cP.mono ?_
 rintro en w3 (⟨-, rfl, hb⟩ | ⟨e', f, h, -, -⟩)
 rotate_left
 · cases h
 have HN3 := hid (HN1.out.below hb)
 have HB3 := hid (HB1.out.trans (hb.mono HB1.out.size))
 clear hb cP a0 a1 a2 a3 a4 a5 a6
 obtain ⟨b0, b1, b2, b3, b4, b5, b6⟩ := row7 HN3.out.n
 have hmm := @run_makeMap Tryz.prog
 have m0 : RM (w3.alloc (.map #[] 0)) w3.heap.size 0 [] := World.ownsMap_made (H := Unit) w3 Tryz.prog 9 ruleR
 obtain ⟨mw1, mr1, m1, mt1⟩ := RM.put m0 (by unfold maxLen; omega) ⟨#[105, 100]⟩ (by decide) ⟨true, false, []⟩
 have mu1 : (Instr.mapUpdate 99 (.map (some w3.heap.size)) (.string ⟨#[105, 100]⟩) (.agg #[.bool true, .bool false, .string ⟨#[]⟩])).run Tryz.prog (w3.alloc (.map #[] 0)) = .ok () mw1 := mr1
 obtain ⟨mw2, mr2, m2, mt2⟩ := RM.put m1 (by unfold maxLen; omega) ⟨#[110, 97, 109, 101]⟩ (by decide) ⟨false, false, []⟩
 have mu2 : (Instr.mapUpdate 99 (.map (some w3.heap.size)) (.string ⟨#[110, 97, 109, 101]⟩) (.agg #[.bool false, .bool false, .string ⟨#[]⟩])).run Tryz.prog mw1 = .ok () mw2 := mr2
 obtain ⟨mw3, mr3, m3, mt3⟩ := RM.put m2 (by unfold maxLen; omega) ⟨#[105, 115, 69, 120, 101, 99, 117, 116, 97, 98, 108, 101]⟩ (by decide) ⟨false, false, []⟩
 have mu3 : (Instr.mapUpdate 99 (.map (some w3.heap.size)) (.string ⟨#[105, 115, 69, 120, 101, 99, 117, 116, 97, 98, 108, 101]⟩) (.agg #[.bool false, .bool false, .string ⟨#[]⟩])).run Tryz.prog mw2 = .ok () mw3 := mr3
 have mb : Below w3.heap.size w3 mw3 := by
   have b0 : Below w3.heap.size w3 (w3.alloc (.map #[] 0)) := (Below.refl _ w3).alloc (Nat.le_refl _) _
   have g := ((mt1.grown.trans mt2.grown).trans mt3.grown)
   exact b0.grown g b0.size (fun q hq => by simp at hq; omega)
 clear mr1 mr2 mr3 mt1 mt2 mt3 m0 m1 m2
 have HN4 := hid (HN3.out.below mb)
 have HB4 := hid (HB3.out.trans (mb.mono HB3.out.size))
 have HM : Hid (RM mw3 w3.heap.size 3 [([105, 115, 69, 120, 101, 99, 117, 116, 97, 98, 108, 101], ⟨false, false, []⟩), ([110, 97, 109, 101], ⟨false, false, []⟩), ([105, 100], ⟨true, false, []⟩)]) := m3
 obtain ⟨M, hM⟩ : ∃ M, w3.heap.size = M := ⟨_, rfl⟩
 rw [hM] at HM
 have c2 := read_any (hasB OK.out.has OK.out.p HB4.out) (fun b hb => Nat.lt_of_lt_of_le (OK.out.p b hb) HB4.out.size) HM.out (OK.out.e.below HB4.out) OK.out.l OK.out.s (by decide)
 have HME := hid hM
 have HS4 := hid HN4.out.sz
 clear mb m3 hM
 obtain ⟨c0, c1, c3, c4, c5, c6, c7⟩ := row7 HN4.out.n
 go_wp2_with fail
 rw [HME.out]
 refine c2.mono ?_
 clear c0 c1 c3 c4 c5 c6 c7 mu1 mu2 mu3
 intro en w5 hrd
 obtain ⟨A, hA⟩ : ∃ A, w5.heap.size = A := ⟨_, rfl⟩
 rcases hrd with ⟨g, Mv, Mn, hx, rfl, hv1, hn1, hKM, hKN, hb⟩ | ⟨er, ma, mc, f, hx, rfl, hf, hr, hb⟩
 rotate_left
 · have HX : Hid (RES = .error (er, n.ln, n.cl)) := by
     show _ = _
     rw [HX1.out, hx]
   obtain ⟨w6, hw6⟩ : ∃ w6, w5.alloc (.cells #[.map ma, .map mc] 94) = w6 := ⟨_, rfl⟩
   have hb6 : Below w5.heap.size w5 w6 := by rw [← hw6]; exact (Below.refl _ w5).alloc (Nat.le_refl _) _
   have HN6 := hid ((HN4.out.below hb).below hb6)
   have HF := hid hf
   have HR : Hid (w6.heap[f]? = some (faultRow er n.ln n.cl)) := (hb6.block f (Go.lt_of_block hr)).trans hr
   have HW6 := hid hw6
   have HAE := hid hA
   clear hx hf hr hb hb6 hw6 hA c2 b0 b1 b2 b3 b4 b5 b6
   go_upto_region 7 with fail
   rw [HW6.out, HAE.out]
   clear HW6 HAE
   obtain ⟨rs, hrk, hrow⟩ := HN6.out.r
   obtain ⟨x0, x1, x2, x3, rfl⟩ := len4 hrk
   obtain ⟨y0, y1, y2, y3, yf0, yf1, yf2, yf3⟩ := rowN4 hrow
   clear hrk hrow
   go_wp2_with fail
   exact bodyPost_ret (v := .tuple #[.agg zero4.toArray, .pointer (some ⟨f, 0, none⟩)]) (results_pair rfl _ _ (H + 1) 106 _ (0, 0) _ (.pointer (some ⟨f, 0, none⟩)) rfl (HN6.out.set zero4 rfl) rfl Tryz.underlying106 rfl sizeProc) rfl (Or.inr ⟨(er, n.ln, n.cl), HX.out, HN6.out.pass zero4 (er, n.ln, n.cl) (by have := HS4.out; have := HF.out; omega) HR.out⟩)
 have HX2 : Hid (RES = if l.any (fun q => decide (q.id = O.get g [105, 100])) then .error (6, n.ln, n.cl) else match O.things n.ks [] [] with | .error e => .error e | .ok (v, i) => .ok ⟨O.get g [105, 100], O.get g [110, 97, 109, 101], v, i⟩) := by
   show _ = _
   rw [HX1.out, hx]
 obtain ⟨w6, hw6⟩ : ∃ w6, w5.alloc (.cells #[.map (some Mv), .map (some Mn)] 94) = w6 := ⟨_, rfl⟩
 have hb6 : Below w5.heap.size w5 w6 := by rw [← hw6]; exact (Below.refl _ w5).alloc (Nat.le_refl _) _
 have HN6 := hid ((HN4.out.below hb).below hb6)
 have HB6 := hid ((HB4.out.trans (hb.mono HB4.out.size)).trans (hb6.mono ((HB4.out.trans (hb.mono HB4.out.size)).size)))
 have HA6 : Hid (w6.heap[A]? = some (.cells #[.map (some Mv), .map (some Mn)] 94 (0, 0))) := by show _ = _; rw [← hw6, ← hA]; exact heap_alloc_new w5 _
 have HK6 := hid (hKM.below hb6)
 obtain ⟨t1, ht1⟩ : ∃ t, X.ba (O.get g [105, 100]) = t := ⟨_, rfl⟩
 obtain ⟨t2, ht2⟩ : ∃ t, X.ba (O.get g [110, 97, 109, 101]) = t := ⟨_, rfl⟩
 have k1 := HK6.out.get ⟨#[105, 100]⟩ (by decide)
 rw [show X.ba ((X.look g.vals (⟨#[105, 100]⟩ : ByteArray).data.toList).getD []) = t1 from ht1] at k1
 have k2 := HK6.out.get ⟨#[110, 97, 109, 101]⟩ (by decide)
 rw [show X.ba ((X.look g.vals (⟨#[110, 97, 109, 101]⟩ : ByteArray).data.toList).getD []) = t2 from ht2] at k2
 obtain ⟨X0, hX0⟩ : ∃ X, w6.heap.size = X := ⟨_, rfl⟩
 obtain ⟨w7, hw7⟩ : ∃ w7, w6.alloc (.cells #[.string t1, .string t2, .slice none 0 0, .slice none 0 0] 106) = w7 := ⟨_, rfl⟩
 have hb7 : Below w6.heap.size w6 w7 := by rw [← hw7]; exact (Below.refl _ w6).alloc (Nat.le_refl _) _
 have HP7 : Hid (PL W H [.string n.sp, .string n.lo, av, .slice ka L kc, .string n.tx, .int .i64 n.ln, .int .i64 n.cl] X0 t1 t2 [] [] (.slice none 0 0) (.slice none 0 0) [] w7) := by
   refine ⟨HN6.out.below hb7, by rw [← hX0]; exact HN6.out.sz, by rw [← hw7, ← hX0]; exact heap_alloc_new w6 _, World.ownsRow_nil _ _ _ _, World.ownsRow_nil _ _ _ _, rfl⟩
 have HB7 := hid (HB6.out.trans (hb7.mono HB6.out.size))
 have HT1 := hid ht1
 have HT2 := hid ht2
 have HW6 := hid hw6
 have HAE := hid hA
 have HX0E := hid hX0
 have HW7 := hid hw7
 have cT := twice_any l lv X0 (O.get g [105, 100]) HLN.out w7 (HLV.out.keep (fun _ h => h) (fun b hb => HB7.out.block b (HPA.out b hb))) (fun b hb => Nat.lt_of_lt_of_le (HPA.out b hb) HB7.out.size) (by rw [ht1]; exact rowCell HP7.out.x 0)
 clear hx hv1 hn1 hKM hKN hb hb6 hw6 hA ht1 ht2 hX0 hw7 hb7 c2 b0 b1 b2 b3 b4 b5 b6
 obtain ⟨e0, e1⟩ := rowN2' HA6.out
 go_upto_region 7 with fail
 rw [HW6.out, HAE.out]
 clear HW6 HAE
 go_upto_region 10 with fail
 rw [HX0E.out, HW7.out]
 clear HW7 HX0E e0 e1 k1 k2
 rcases hq : l.any (fun q => decide (q.id = O.get g [105, 100])) with _ | _
 rotate_left
 · have HX : Hid (RES = .error (6, n.ln, n.cl)) := by show _ = _; rw [HX2.out, hq]; rfl
   rw [hq] at cT
   clear hq
   go_wp2_with fail
   refine cT.mono ?_
   rintro en w8 ⟨rfl, hb8⟩
   have HN8 := hid (HP7.out.below hb8).nb
   clear hb8 cT
   obtain ⟨rs, hrk, hrow⟩ := HN8.out.r
   obtain ⟨x0, x1, x2, x3, rfl⟩ := len4 hrk
   obtain ⟨y0, y1, y2, y3, yf0, yf1, yf2, yf3⟩ := rowN4 hrow
   obtain ⟨-, -, -, -, -, b5, b6⟩ := row7 HN8.out.n
   have z1 : H + 1 < w8.heap.size := by have := HN8.out.sz; omega
   have z0 : H < w8.heap.size := by omega
   clear hrk hrow
   go_upto_region 11 with fail
   go_region
   clear y0 yf0 y1 yf1 y2 yf2 y3 yf3 z0 z1 b5 b6
   go_wp2_with fail
   exact bodyPost_ret (v := .tuple #[.agg zero4.toArray, .pointer (some ⟨w8.heap.size, 0, none⟩)]) (results_pair rfl _ _ (H + 1) 106 _ (0, 0) _ (.pointer (some ⟨w8.heap.size, 0, none⟩)) rfl (HN8.out.faultR zero4 rfl _) rfl Tryz.underlying106 rfl sizeProc) rfl (Or.inr ⟨_, HX.out, HN8.out.fault zero4 _ _ _⟩)
 have HX3 : Hid (RES = match O.things n.ks [] [] with | .error e => .error e | .ok (v, i) => .ok ⟨O.get g [105, 100], O.get g [110, 97, 109, 101], v, i⟩) := by show _ = _; rw [HX2.out, hq]; rfl
 rw [hq] at cT
 clear hq
 go_wp2_with fail
 refine cT.mono ?_
 rintro en w8 ⟨rfl, hb8⟩
 have HP8 := hid (HP7.out.below hb8)
 clear hb8 cT
 obtain ⟨gk, ok, hka, hat⟩ : ∃ gk ok, (ka = some ⟨gk, ok, none⟩ ∨ n.ks = .nil) ∧ n.ks.At W P gk ok := by
   rcases HKI.out with ⟨h0, _⟩ | ⟨gk, ok, c, he, _, _, h4⟩
   · exact ⟨0, 0, Or.inr h0, by rw [h0]; trivial⟩
   · simp only [Value.slice.injEq] at he
     exact ⟨gk, ok, Or.inl he.1, h4⟩
 have HKA := hid hka
 have HAT := hid hat
 clear hka hat
 have HB := HB7
 clear HB1 HB3 HB4 HB6 HB7 HN1 HN3 HN4 HN6 HA6 HK6 HP7 HM HME HX1 HX2
 obtain ⟨-, -, -, b3, -, -, -⟩ := row7 HP8.out.nb.n
 go_wp2_with fail
 clear b3
 go_loopw [67] (fun vi wr => ∃ (i : Nat) (r : X.N) (va : List O.Va) (it : List O.It) (vad : Option Addr) (vcp : Nat) (iad : Option Addr) (icp : Nat) (ic : List Value), vi = .int .i64 i ∧ Hid (i + r.length = L ∧ O.things n.ks [] [] = O.things r va it ∧ O.fitN r = true ∧ va.length ≤ i ∧ it.length ≤ i) ∧ Hid ((ka = some ⟨gk, ok, none⟩ ∨ r = .nil) ∧ r.At W P gk (ok + i * 7)) ∧ Hid (PL W H [.string n.sp, .string n.lo, av, .slice ka L kc, .string n.tx, .int .i64 n.ln, .int .i64 n.cl] X0 t1 t2 va it (.slice vad va.length vcp) (.slice iad it.length icp) ic wr)) (fun vi _ => L - (intOf vi).toNat)
 case atStart => exact ⟨0, n.ks, [], [], none, 0, none, 0, [], rfl, hid ⟨by rw [HLL.out]; omega, rfl, HKS.out, Nat.le_refl _, Nat.le_refl _⟩, hid ⟨HKA.out, by simpa using HAT.out⟩, HP8⟩
 case round =>
   obtain ⟨i, r, va, it, vad, vcp, iad, icp, ic, rfl, HI, HR, HP⟩ := hrel
   clear HP8
   cases r with
   | nil =>
     have hiL : i = L := by have := HI.out.1; simpa [X.N.length] using this
     have t0 : decide ((i : Int) < (L : Int)) = false := decide_eq_false (by omega)
     have t1' : decide (i < L) = false := decide_eq_false (by omega)
     have HX : Hid (RES = .ok ⟨O.get g [105, 100], O.get g [110, 97, 109, 101], va, it⟩) := by show _ = _; rw [HX3.out, HI.out.2.1]; rfl
     obtain ⟨x0, x1, x2, x3, -⟩ := rowN4 HP.out.x
     obtain ⟨rs, hrk, hrow⟩ := HP.out.nb.r
     obtain ⟨r0, r1, r2, r3, rfl⟩ := len4 hrk
     obtain ⟨y0, y1, y2, y3, yf0, yf1, yf2, yf3⟩ := rowN4 hrow
     clear hrk hrow hiL
     go_wp2_with fail
     exact bodyPost_ret (v := .tuple #[.agg #[.string t1, .string t2, .slice vad va.length vcp, .slice iad it.length icp], .pointer none]) (results_pair rfl _ _ (H + 1) 106 _ (0, 0) _ (.pointer none) rfl (HP.out.nb.set [.string t1, .string t2, .slice vad va.length vcp, .slice iad it.length icp] rfl) rfl Tryz.underlying106 rfl sizeProc) rfl (HP.out.done HT1.out HT2.out HX.out)
   | cons sp lo al ks tx ln cl r =>
     have hfit := HI.out.2.2.1
     unfold O.fitN at hfit
     rw [Bool.and_eq_true, Bool.and_eq_true, Bool.and_eq_true] at hfit
     obtain ⟨⟨⟨hnk, hfe⟩, hiv⟩, hfr⟩ := hfit
     obtain rfl := noKids_nil hnk
     have hlen : i + r.length + 1 = L := by have := HI.out.1; simp only [X.N.length] at this; omega
     have hlt : i < L := by omega
     have t0 : decide ((i : Int) < (L : Int)) = true := decide_eq_true (by omega)
     have t1' : decide (i < L) = true := decide_eq_true (by omega)
     obtain ⟨hp0, h0, h1, ⟨av', h2, hav⟩, ⟨kv', h3, hkv⟩, h4, h5, h6, hrest⟩ := HR.out.2
     obtain rfl : ka = some ⟨gk, ok, none⟩ := by
       rcases HR.out.1 with h | h
       · exact h
       · cases h
     have hkv' : X.N.In W P .nil kv' := by
       rcases hkv with h | ⟨_, _, _, _, _, h, _⟩
       · exact Or.inl h
       · cases h
     obtain ⟨ava, avc, rfl⟩ := hav.shape
     obtain ⟨kva, kvc, rfl⟩ : ∃ a c, kv' = .slice a 0 c := hkv'.shape
     have hpl := OK.out.p gk hp0
     have hbw : Below W.heap.size W wr := by have := HP.out.nb.b; rw [← HH.out] at this; exact this
     have cc := fun (o : Nat) => hbw.cell (p := ⟨gk, o, none⟩) hpl
     have d0 := (cc _).trans h0
     have d1 := (cc _).trans h1
     have d2 := (cc _).trans h2
     have d3 := (cc _).trans h3
     have d4 := (cc _).trans h4
     have d5 := (cc _).trans h5
     have d6 := (cc _).trans h6
     obtain ⟨K, hK⟩ : ∃ K, wr.heap.size = K := ⟨_, rfl⟩
     obtain ⟨w9, hw9⟩ : ∃ w, wr.alloc (.cells #[.string sp, .string lo, .slice ava al.length avc, .slice kva 0 kvc, .string tx, .int .i64 ln, .int .i64 cl] 44) = w := ⟨_, rfl⟩
     have hb9 : Below wr.heap.size wr w9 := by rw [← hw9]; exact (Below.refl _ wr).alloc (Nat.le_refl _) _
     have HK9 : Hid (w9.heap[K]? = some (.cells #[.string sp, .string lo, .slice ava al.length avc, .slice kva 0 kvc, .string tx, .int .i64 ln, .int .i64 cl] 44 (0, 0))) := by show _ = _; rw [← hw9, ← hK]; exact heap_alloc_new _ _
     have HP9 := hid (HP.out.below hb9)
     have HB9 := hid (hbw.trans (hb9.mono hbw.size))
     have HHAS : Hid (X.E.Has W P (⟨sp, lo, al, .nil, tx, ln, cl⟩ : X.E) [.string sp, .string lo, .slice ava al.length avc, .slice kva 0 kvc, .string tx, .int .i64 ln, .int .i64 cl]) := ⟨_, _, rfl, hav, hkv'⟩
     obtain ⟨f1, f2, f3, f4⟩ := fit_parts hfe
     have HOK : Hid (NodeOk w9 P (⟨sp, lo, al, .nil, tx, ln, cl⟩ : X.E) [.string sp, .string lo, .slice ava al.length avc, .slice kva 0 kvc, .string tx, .int .i64 ln, .int .i64 cl]) := ⟨hasB HHAS.out OK.out.p HB9.out, rfl, fun b hb => Nat.lt_of_lt_of_le (OK.out.p b hb) HB9.out.size, OK.out.e.below HB9.out, f1, f2, f3, f4⟩
     have HKE := hid hK
     have HW9 := hid hw9
     have HI2 : Hid (i + r.length + 1 = L ∧ O.fitN r = true ∧ va.length ≤ i ∧ it.length ≤ i ∧ i < L ∧ L ≤ 2000) := ⟨hlen, hfr, HI.out.2.2.2.1, HI.out.2.2.2.2, hlt, by have := HKL.out; have := HLL.out; omega⟩
     have HRR : Hid (r.At W P gk (ok + (i + 1) * 7)) := by show X.N.At _ _ _ _ _; rw [show ok + (i + 1) * 7 = ok + i * 7 + 7 by omega]; exact hrest
     have HTH : Hid (O.things n.ks [] [] = if O.isVar sp lo then (match O.var (⟨sp, lo, al, .nil, tx, ln, cl⟩ : X.E) with | .error e => .error e | .ok x => O.things r (va ++ [x]) it) else (match O.elem (⟨sp, lo, al, .nil, tx, ln, cl⟩ : X.E) with | .error e => .error e | .ok x => O.things r va (it ++ [x]))) := HI.out.2.1
     have HIV := hid hiv
     have HKSZ := hid HP9.out.sz
     clear hfe hiv hfr hnk hlen hp0 h0 h1 h2 h3 h4 h5 h6 hrest hav hkv hkv' hpl hbw cc hb9 f1 f2 f3 f4 hK hw9 HI HR HP
     go_upto_region 15 with fail
     rw [HW9.out, HKE.out]
     clear HW9 HKE d0 d1 d2 d3 d4 d5 d6
     obtain ⟨d0, d1, d2, d3, d4, d5, d6⟩ := row7 HK9.out
     by_cases hv1 : sp.toList = [117, 114, 110, 58, 116, 111, 108, 108, 103, 97, 116, 101]
     · have q3 : (sp.toList == [117, 114, 110, 58, 116, 111, 108, 108, 103, 97, 116, 101]) = true := beq_iff_eq.2 hv1
       have hb2 : O.isVar sp lo = true ∧ O.intVar (⟨sp, lo, al, .nil, tx, ln, cl⟩ : X.E) = true := by
         have h := HIV.out
         have h1 : decide (sp.data.toList = O.ownL) = true := decide_eq_true (by rw [← Lib.toList_data]; exact hv1)
         rw [h1] at h
         simpa using h
       have hisv := hb2.1
       have hv2 : lo.toList = [118, 97, 114, 105, 97, 98, 108, 101] := by
         have := of_decide_eq_true hisv
         rw [Lib.toList_data]; exact this.2
       have q4 : (lo.toList == [118, 97, 114, 105, 97, 98, 108, 101]) = true := beq_iff_eq.2 hv2
       have HTH2 : Hid (O.things n.ks [] [] = (match O.var (⟨sp, lo, al, .nil, tx, ln, cl⟩ : X.E) with | .error e => .error e | .ok x => O.things r (va ++ [x]) it)) := by show _ = _; rw [HTH.out, if_pos hisv]
       have cV := var_any HOK.out hb2.2
       clear hv1 hv2 hisv hb2
       go_wp2_with fail
       refine cV.mono ?_
       rintro en w10 (⟨x, hx, rfl, hb⟩ | ⟨e, hx, f, rfl, hf, hr, hb⟩)
       rotate_left
       · have HX : Hid (RES = .error e) := by show _ = _; rw [HX3.out, HTH2.out, hx]
         obtain ⟨w11, hw11⟩ : ∃ w, w10.alloc (.cells #[.string ⟨#[]⟩, .int .u8 0, .int .i64 0, .bool false, .string ⟨#[]⟩] 51) = w := ⟨_, rfl⟩
         have hb11 : Below w10.heap.size w10 w11 := by rw [← hw11]; exact (Below.refl _ w10).alloc (Nat.le_refl _) _
         have HN11 := hid ((HP9.out.below hb).below hb11).nb
         have HR : Hid (w11.heap[f]? = some (faultRow e.1 e.2.1 e.2.2)) := (hb11.block f (Go.lt_of_block hr)).trans hr
         have HF : Hid (H + 2 ≤ f) := by have := HP9.out.hx; have := HKSZ.out; show _ ≤ _; omega
         have HW11 := hid hw11
         obtain ⟨Z, hZ⟩ : ∃ Z, w10.heap.size = Z := ⟨_, rfl⟩
         have HZ := hid hZ
         clear hx hf hr hb hb11 hw11 hZ cV d0 d1 d2 d3 d4 d5 d6
         rw [show (zero5.toArray : Array Value) = #[.string ⟨#[]⟩, .int .u8 0, .int .i64 0, .bool false, .string ⟨#[]⟩] from rfl]
         go_upto_region 17 with fail
         rw [HW11.out, HZ.out]
         clear HW11 HZ
         obtain ⟨rs, hrk, hrow⟩ := HN11.out.r
         obtain ⟨x0, x1, x2, x3, rfl⟩ := len4 hrk
         obtain ⟨y0, y1, y2, y3, yf0, yf1, yf2, yf3⟩ := rowN4 hrow
         clear hrk hrow
         go_wp2_with fail
         exact bodyPost_ret (v := .tuple #[.agg zero4.toArray, .pointer (some ⟨f, 0, none⟩)]) (results_pair rfl _ _ (H + 1) 106 _ (0, 0) _ (.pointer (some ⟨f, 0, none⟩)) rfl (HN11.out.set zero4 rfl) rfl Tryz.underlying106 rfl sizeProc) rfl (Or.inr ⟨e, HX.out, HN11.out.pass zero4 e (HF.out) HR.out⟩)
       obtain ⟨Z, hZ⟩ : ∃ Z, w10.heap.size = Z := ⟨_, rfl⟩
       obtain ⟨w11, hw11⟩ : ∃ w, w10.alloc (.cells #[.string (X.ba x.name), .int .u8 1, .int .i64 x.x, .bool false, .string ⟨#[]⟩] 51) = w := ⟨_, rfl⟩
       have hb11 : Below w10.heap.size w10 w11 := by rw [← hw11]; exact (Below.refl _ w10).alloc (Nat.le_refl _) _
       have HZ11 : Hid (w11.heap[Z]? = some (.cells #[.string (X.ba x.name), .int .u8 1, .int .i64 x.x, .bool false, .string ⟨#[]⟩] 51 (0, 0))) := by show _ = _; rw [← hw11, ← hZ]; exact heap_alloc_new _ _
       have HP11 := hid ((HP9.out.below hb).below hb11)
       obtain ⟨V, hV⟩ : ∃ V, w11.heap.size = V := ⟨_, rfl⟩
       obtain ⟨w12, hw12⟩ : ∃ w, w11.alloc (.cells #[.string (X.ba x.name), .int .u8 1, .int .i64 x.x, .bool false, .string ⟨#[]⟩] 51) = w := ⟨_, rfl⟩
       have hb12 : Below w11.heap.size w11 w12 := by rw [← hw12]; exact (Below.refl _ w11).alloc (Nat.le_refl _) _
       have hT12 : w12.heap[V]? = some (.cells #[.string (X.ba x.name), .int .u8 1, .int .i64 x.x, .bool false, .string ⟨#[]⟩] 51 (0, 0)) := by rw [← hw12, ← hV]; exact heap_alloc_new _ _
       have HP12 := hid (HP11.out.below hb12)
       have HTH3 : Hid (O.things n.ks [] [] = O.things r (va ++ [x]) it) := by show _ = _; rw [HTH2.out, hx]
       have HW11 := hid hw11
       have HZE := hid hZ
       have HW12 := hid hw12
       have HVE := hid hV
       have hnews := World.news_of_block hT12
       obtain ⟨i0, hi, hz0, hz1, hzz⟩ := info_parts infoBind
       have hbase : X0 + 1 ≤ w12.heap.size := HP12.out.sz
       have hown := HP12.out.vo
       have hm1 : va.length + 1 ≤ maxLen := by have := HI2.out; unfold maxLen; omega
       have hm2 : (va.length + 1) * 56 ≤ 140737488355328 := by have := HI2.out; omega
       clear hx hb hb11 hw11 hZ hb12 hw12 hV cV d0 d1 d2 d3 d4 d5 d6 hT12
       rw [show ((vaC x).toArray : Array Value) = #[.string (X.ba x.name), .int .u8 1, .int .i64 x.x, .bool false, .string ⟨#[]⟩] from rfl]
       go_upto_region 17 with fail
       rw [HW11.out, HZE.out]
       clear HW11 HZE
       obtain ⟨z0, z1, z2, z3, z4, -⟩ := rowN5 HZ11.out
       obtain ⟨x0, x1, x2, x3, xf0, xf1, xf2, xf3⟩ := rowN4 HP11.out.x
       go_wp2_with (at_builtin; (try rw [HW12.out, HVE.out]); refine wpList_append_lies _ rfl _ _ 26 rfl (X0 + 1) 51 i0 _ 5 56 Tryz.underlying26 hi hz0 hz1 hzz rfl (by decide) (.slice vad va.length vcp) va.length (vasC va) rfl hown ⟨V, 0, none⟩ 1 1 [.string (X.ba x.name), .int .u8 1, .int .i64 x.x, .bool false, .string ⟨#[]⟩] rfl rfl hnews (by intro u hu; simp at hu; rcases hu with rfl | rfl | rfl | rfl | rfl <;> rfl) (by decide) hm1 hm2 hbase _ rfl ?_)
       intro g1 cap1 w13 hown1 hgrow hat hlt1
       have HP13 := hid (HP12.out.var (x := x) hown1 hgrow (hat.imp (fun h => h) (fun h => Nat.le_of_eq h.symm)))
       have hX13 : w13.heap[X0]? = some (.cells #[.string t1, .string t2, .slice vad va.length vcp, .slice iad it.length icp] 106 (0, 0)) := row_own HP12.out.x hgrow (World.ownsRow.lt hown)
       obtain ⟨y0, y1, y2, y3, yf0, yf1, yf2, yf3⟩ := rowN4 hX13
       obtain ⟨i1, hi1⟩ : ∃ i1, i + 1 = i1 := ⟨_, rfl⟩
       have e1 : IntKind.i64.wrap ((i : Int) + 1) = (i1 : Int) := by have := HI2.out; rw [IntKind.wrap_i64] <;> omega
       have HI3 : Hid (i1 + r.length = L ∧ O.things n.ks [] [] = O.things r (va ++ [x]) it ∧ O.fitN r = true ∧ (va ++ [x]).length ≤ i1 ∧ it.length ≤ i1) := by
         have := HI2.out
         refine ⟨by omega, HTH3.out, this.2.1, ?_, by omega⟩
         rw [List.length_append, List.length_singleton]; omega
       have HR3 : Hid ((some (⟨gk, ok, none⟩ : Addr) = some ⟨gk, ok, none⟩ ∨ r = .nil) ∧ r.At W P gk (ok + i1 * 7)) := ⟨Or.inl rfl, by rw [← hi1]; exact HRR.out⟩
       have HM3 : Hid (L - i1 < L - i) := by have := HI2.out; show _ < _; omega
       clear hown1 hgrow hat hlt1 hX13 hi1 hown hnews hi hz0 hz1 hzz hbase hm1 hm2 z0 z1 z2 z3 z4 x0 x1 x2 x3 xf0 xf1 xf2 xf3
       go_wp2_with fail
       go_roundw
       case rel => exact ⟨i1, r, va ++ [x], it, some ⟨g1, 0, none⟩, cap1, iad, icp, ic, rfl, HI3, by first | exact HR3 | exact hid ⟨Or.inl trivial, HR3.out.2⟩, by rw [List.length_append, List.length_singleton]; exact HP13⟩
       case measure => simpa [intOf] using HM3.out
     · have q3 : (sp.toList == [117, 114, 110, 58, 116, 111, 108, 108, 103, 97, 116, 101]) = false := beq_eq_false_iff_ne.2 hv1
       have hisv : O.isVar sp lo = false := by unfold O.isVar; rw [← Lib.toList_data, ← Lib.toList_data]; exact decide_eq_false (fun h => hv1 h.1)
       clear hv1
       have HTH2 : Hid (O.things n.ks [] [] = (match O.elem (⟨sp, lo, al, .nil, tx, ln, cl⟩ : X.E) with | .error e => .error e | .ok x => O.things r va (it ++ [x]))) := by show _ = _; rw [HTH.out, if_neg (by rw [hisv]; simp)]
       have cV := elem_any HOK.out (by have h := HIV.out; rw [hisv, Bool.false_and, Bool.or_false, Bool.and_eq_true] at h; exact h.2)
       clear hisv
       go_wp2_with fail
       refine cV.mono ?_
       rintro en w10 (⟨x, ds, hx, rfl, hi0, hb⟩ | ⟨e, hx, f, rfl, hf, hr, hb⟩)
       rotate_left
       · have HX : Hid (RES = .error e) := by show _ = _; rw [HX3.out, HTH2.out, hx]
         obtain ⟨w11, hw11⟩ : ∃ w, w10.alloc (.cells #[.int .i64 0, .int .i64 0, .pointer none, .string ⟨#[]⟩, .string ⟨#[]⟩, .int .u8 0, .string ⟨#[]⟩, .string ⟨#[]⟩, .string ⟨#[]⟩, .int .u8 0, .string ⟨#[]⟩, .string ⟨#[]⟩, .int .i64 0, .int .i64 0, .string ⟨#[]⟩, .slice none 0 0] 144) = w := ⟨_, rfl⟩
         have hb11 : Below w10.heap.size w10 w11 := by rw [← hw11]; exact (Below.refl _ w10).alloc (Nat.le_refl _) _
         have HN11 := hid ((HP9.out.below hb).below hb11).nb
         have HR : Hid (w11.heap[f]? = some (faultRow e.1 e.2.1 e.2.2)) := (hb11.block f (Go.lt_of_block hr)).trans hr
         have HF : Hid (H + 2 ≤ f) := by have := HP9.out.hx; have := HKSZ.out; show _ ≤ _; omega
         have HW11 := hid hw11
         obtain ⟨Z, hZ⟩ : ∃ Z, w10.heap.size = Z := ⟨_, rfl⟩
         have HZ := hid hZ
         clear hx hf hr hb hb11 hw11 hZ cV d0 d1 d2 d3 d4 d5 d6
         rw [show (zero16.toArray : Array Value) = #[.int .i64 0, .int .i64 0, .pointer none, .string ⟨#[]⟩, .string ⟨#[]⟩, .int .u8 0, .string ⟨#[]⟩, .string ⟨#[]⟩, .string ⟨#[]⟩, .int .u8 0, .string ⟨#[]⟩, .string ⟨#[]⟩, .int .i64 0, .int .i64 0, .string ⟨#[]⟩, .slice none 0 0] from rfl]
         go_upto_region 21 with fail
         rw [HW11.out, HZ.out]
         clear HW11 HZ
         obtain ⟨rs, hrk, hrow⟩ := HN11.out.r
         obtain ⟨x0, x1, x2, x3, rfl⟩ := len4 hrk
         obtain ⟨y0, y1, y2, y3, yf0, yf1, yf2, yf3⟩ := rowN4 hrow
         clear hrk hrow
         go_wp2_with fail
         exact bodyPost_ret (v := .tuple #[.agg zero4.toArray, .pointer (some ⟨f, 0, none⟩)]) (results_pair rfl _ _ (H + 1) 106 _ (0, 0) _ (.pointer (some ⟨f, 0, none⟩)) rfl (HN11.out.set zero4 rfl) rfl Tryz.underlying106 rfl sizeProc) rfl (Or.inr ⟨e, HX.out, HN11.out.pass zero4 e (HF.out) HR.out⟩)
       have HIT := hid hi0
       obtain ⟨q, a, rfl⟩ := hi0.form
       obtain ⟨Z, hZ⟩ : ∃ Z, w10.heap.size = Z := ⟨_, rfl⟩
       obtain ⟨w11, hw11⟩ : ∃ w, w10.alloc (.cells #[.int .i64 x.ln, .int .i64 x.cl, .pointer q, .string (X.ba x.e.id), .string (X.ba x.e.nm), .int .u8 x.e.kind, .string (X.ba x.e.inn), .string (X.ba x.e.dflt), .string (X.ba x.e.att), .int .u8 0, .string ⟨#[]⟩, .string ⟨#[]⟩, .int .i64 0, .int .i64 x.e.tries, .string (X.ba x.called), .slice a 0 0] 144) = w := ⟨_, rfl⟩
       have hb11 : Below w10.heap.size w10 w11 := by rw [← hw11]; exact (Below.refl _ w10).alloc (Nat.le_refl _) _
       have HZ11 : Hid (w11.heap[Z]? = some (.cells #[.int .i64 x.ln, .int .i64 x.cl, .pointer q, .string (X.ba x.e.id), .string (X.ba x.e.nm), .int .u8 x.e.kind, .string (X.ba x.e.inn), .string (X.ba x.e.dflt), .string (X.ba x.e.att), .int .u8 0, .string ⟨#[]⟩, .string ⟨#[]⟩, .int .i64 0, .int .i64 x.e.tries, .string (X.ba x.called), .slice a 0 0] 144 (0, 0))) := by show _ = _; rw [← hw11, ← hZ]; exact heap_alloc_new _ _
       have HP11 := hid ((HP9.out.below hb).below hb11)
       have HTH3 : Hid (O.things n.ks [] [] = O.things r va (it ++ [x])) := by show _ = _; rw [HTH2.out, hx]
       have HI11 : Hid (ItHas w11 (OwnG w11 (X0 + 1) [tFlow]) x [.int .i64 x.ln, .int .i64 x.cl, .pointer q, .string (X.ba x.e.id), .string (X.ba x.e.nm), .int .u8 x.e.kind, .string (X.ba x.e.inn), .string (X.ba x.e.dflt), .string (X.ba x.e.att), .int .u8 0, .string ⟨#[]⟩, .string ⟨#[]⟩, .int .i64 0, .int .i64 x.e.tries, .string (X.ba x.called), .slice a 0 0]) := HIT.out.keep (fun b hb => ((hb.keep (KeepG.below hb11 _)).1.sub (fun _ h => h) HKSZ.out)) (fun b hb => (hb.keep (KeepG.below hb11 _)).2)
       have HW11 := hid hw11
       have HZE := hid hZ
       clear hx hb hb11 hw11 hZ cV d0 d1 d2 d3 d4 d5 d6 hi0 HIT
       rw [show ((itC x (.pointer q) (.slice a 0 0)).toArray : Array Value) = #[.int .i64 x.ln, .int .i64 x.cl, .pointer q, .string (X.ba x.e.id), .string (X.ba x.e.nm), .int .u8 x.e.kind, .string (X.ba x.e.inn), .string (X.ba x.e.dflt), .string (X.ba x.e.att), .int .u8 0, .string ⟨#[]⟩, .string ⟨#[]⟩, .int .i64 0, .int .i64 x.e.tries, .string (X.ba x.called), .slice a 0 0] from rfl]
       go_upto_region 21 with fail
       rw [HW11.out, HZE.out]
       clear HW11 HZE
       go_upto_region 23 with fail
       obtain ⟨i0, hi, hz0, hz1, hzz⟩ := info_parts infoItem
       have HQ := hid (And.intro hi (And.intro hz0 (And.intro hz1 hzz)))
       obtain ⟨w12, hw12⟩ : ∃ w, (w11.alloc (.cells #[.int .i64 0, .int .i64 0, .pointer none, .string ⟨#[]⟩, .string ⟨#[]⟩, .int .u8 0, .string ⟨#[]⟩, .string ⟨#[]⟩, .string ⟨#[]⟩, .int .u8 0, .string ⟨#[]⟩, .string ⟨#[]⟩, .int .i64 0, .int .i64 0, .string ⟨#[]⟩, .slice none 0 0] 144)).drew = w := ⟨_, rfl⟩
       have hb12 : Below w11.heap.size w11 w12 := by rw [← hw12]; exact ((Below.refl _ w11).alloc (Nat.le_refl _) _).drew
       have hT12 : w12.heap[w11.heap.size]? = some (.cells #[.int .i64 0, .int .i64 0, .pointer none, .string ⟨#[]⟩, .string ⟨#[]⟩, .int .u8 0, .string ⟨#[]⟩, .string ⟨#[]⟩, .string ⟨#[]⟩, .int .u8 0, .string ⟨#[]⟩, .string ⟨#[]⟩, .int .i64 0, .int .i64 0, .string ⟨#[]⟩, .slice none 0 0] 144 (0, 0)) := by rw [← hw12]; exact heap_alloc_new w11 _
       have HP12 := hid (HP11.out.below hb12)
       have HI12 : Hid (ItHas w12 (OwnG w12 (X0 + 1) [tFlow]) x [.int .i64 x.ln, .int .i64 x.cl, .pointer q, .string (X.ba x.e.id), .string (X.ba x.e.nm), .int .u8 x.e.kind, .string (X.ba x.e.inn), .string (X.ba x.e.dflt), .string (X.ba x.e.att), .int .u8 0, .string ⟨#[]⟩, .string ⟨#[]⟩, .int .i64 0, .int .i64 x.e.tries, .string (X.ba x.called), .slice a 0 0]) := HI11.out.keep (fun b hb => (hb.keep (KeepG.below hb12 _)).1) (fun b hb => (hb.keep (KeepG.below hb12 _)).2)
       have HNW := hid (World.news_of_block hT12)
       have HOW := hid HP12.out.io
       have HON : Hid (∀ u ∈ zero16, u.oneCell' = true) := by intro u hu; simp only [zero16, List.mem_cons, List.not_mem_nil, or_false] at hu; rcases hu with rfl | rfl | rfl | rfl | rfl | rfl | rfl | rfl | rfl | rfl | rfl | rfl | rfl | rfl | rfl | rfl <;> rfl
       have HMB : Hid (it.length + 1 ≤ maxLen ∧ (it.length + 1) * 208 ≤ 140737488355328) := by have := HI2.out; refine ⟨by unfold maxLen; omega, by omega⟩
       have HBS : Hid (X0 + 1 ≤ w12.heap.size) := HP12.out.sz
       have HW12 := hid hw12
       rw [← hw12] at HP12 HI12 HNW HOW HBS
       clear hi hz0 hz1 hzz hw12 hb12 hT12
       refine wp_region_till (S := (fun W : World => W.heap[X0]? = some (.cells #[.string t1, .string t2, .slice vad va.length vcp, .slice iad it.length icp] 106 (0, 0)) ∧ W.heap[Z]? = some (.cells #[.int .i64 x.ln, .int .i64 x.cl, .pointer q, .string (X.ba x.e.id), .string (X.ba x.e.nm), .int .u8 x.e.kind, .string (X.ba x.e.inn), .string (X.ba x.e.dflt), .string (X.ba x.e.att), .int .u8 0, .string ⟨#[]⟩, .string ⟨#[]⟩, .int .i64 0, .int .i64 x.e.tries, .string (X.ba x.called), .slice a 0 0] 144 (0, 0)))) 5 (by kernel_rfl) ?_
       have HS := hid (show ((fun W : World => W.heap[X0]? = some (.cells #[.string t1, .string t2, .slice vad va.length vcp, .slice iad it.length icp] 106 (0, 0)) ∧ W.heap[Z]? = some (.cells #[.int .i64 x.ln, .int .i64 x.cl, .pointer q, .string (X.ba x.e.id), .string (X.ba x.e.nm), .int .u8 x.e.kind, .string (X.ba x.e.inn), .string (X.ba x.e.dflt), .string (X.ba x.e.att), .int .u8 0, .string ⟨#[]⟩, .string ⟨#[]⟩, .int .i64 0, .int .i64 x.e.tries, .string (X.ba x.called), .slice a 0 0] 144 (0, 0)))) _ from ⟨HP11.out.x, HZ11.out⟩)
       refine wpTill_any 0 (oi := ?oi1001) (v := ?v1001) ?ho1001 (by kernel_rfl) (by kernel_rfl) (by kernel_rfl) (by kernel_rfl) ?hq1001 (Or.inl ⟨?hw1001, ?hy1001⟩) (fun _ => HS.out) ?rest1001
       case ho1001 => rfl
       case hw1001 => rfl
       case hy1001 => intro w; go_simp; try with_reducible rfl
       case hq1001 => exact fun _ _ _ h => h
       refine wpTill_load 1 [1, 5] (oi := ?oi1002) (v := ?v1002) ?ho1002 (by kernel_rfl) (by kernel_rfl) (by kernel_rfl) (by kernel_rfl) ?hq1002 (Or.inl ⟨?hw1002, ?hy1002⟩) HS.out ?rest1002
       case ho1002 => rfl
       case hw1002 => rfl
       case hy1002 =>
         intro w hSw
         obtain ⟨x0, x1, x2, x3, -⟩ := rowN4 hSw.1
         clear hSw
         go_simp
         try with_reducible rfl
       case hq1002 => exact fun _ _ _ h => h
       refine wpTill_any 3 (oi := ?oi1003) (v := ?v1003) ?ho1003 (by kernel_rfl) (by kernel_rfl) (by kernel_rfl) (by kernel_rfl) ?hq1003 (Or.inl ⟨?hw1003, ?hy1003⟩) (fun _ => HS.out) ?rest1003
       case ho1003 => rfl
       case hw1003 => rfl
       case hy1003 => intro w; go_simp; try with_reducible rfl
       case hq1003 => exact fun _ _ _ h => h
       refine wpTill_load 2 [2, 5] (oi := ?oi1004) (v := ?v1004) ?ho1004 (by kernel_rfl) (by kernel_rfl) (by kernel_rfl) (by kernel_rfl) ?hq1004 (Or.inl ⟨?hw1004, ?hy1004⟩) HS.out ?rest1004
       case ho1004 => rfl
       case hw1004 => rfl
       case hy1004 =>
         intro w hSw
         obtain ⟨z0, z1, z2, z3, z4, z5, z6, z7, z8, z9, z10, z11, z12, z13, z14, z15, -⟩ := rowN16 hSw.2
         clear hSw
         go_simp
         try with_reducible rfl
       case hq1004 => exact fun _ _ _ h => h
       refine wpTill_ready (rs := [4]) (by kernel_rfl) (by decide) ?_
       refine AllTill.consH (o := ?oi1005) ?ho1005 (fun K hK => ?step1005) ?more1005
       case ho1005 => rfl
       case step1005 =>
         go_simp
         refine hK.out _ _ (fun _ => ⟨(Go.Lib.alloc_old _ _ _ (Go.lt_of_block HP11.out.x)).trans HP11.out.x, (Go.Lib.alloc_old _ _ _ (Go.lt_of_block HZ11.out)).trans HZ11.out⟩) (fun hHeld => ?_)
         have HS5 := hid (hHeld (by kernel_rfl))
         clear hHeld hK K
         refine wpTill_ready (rs := [5]) (by kernel_rfl) (by decide) ?_
         refine AllTill.consH (o := ?oi1006) ?ho1006 (fun K hK => ?step1006) ?more1006
         case ho1006 => rfl
         case step1006 =>
          refine step_append_lies _ (by rfl) (.tmp 104) (.tmp 107) 104 (by rfl) (X0 + 1) 144 i0 _ 16 208 Tryz.underlying104 HQ.out.1 HQ.out.2.1 HQ.out.2.2.1 HQ.out.2.2.2 rfl (by decide) (.slice iad it.length icp) it.length ic (by rfl) HOW.out ⟨w11.heap.size, 0, none⟩ 1 1 zero16 (by rfl) rfl HNW.out HON.out (by decide) HMB.out.1 HMB.out.2 HBS.out _ rfl ?_
          intro g1 cap1 w13 hown1 hgrow hat hlt1
          have HP13 := hid (HP12.out.item HI12.out hown1 hgrow (hat.imp (fun h => h) (fun h => Nat.le_of_eq h.symm)))
          have HX13 : Hid (w13.heap[X0]? = some (.cells #[.string t1, .string t2, .slice vad va.length vcp, .slice iad it.length icp] 106 (0, 0))) := row_own HP12.out.x hgrow (World.ownsRow.lt HOW.out)
          have HO13 := hid hown1
          have hbd : ((it.length : Nat) : Int) < ((it.length : Nat) : Int) + 1 := by omega
          have HGX : Hid (g1 ≠ X0) := fun e => by have := (World.ownsRow.lt hown1 g1 rfl).1; omega
          clear hown1 hgrow hat hlt1
          obtain ⟨y0, y1, y2, y3, yf0, yf1, yf2, yf3⟩ := rowN4 HX13.out
          have gf0 := World.ownsRow.frozenAt HO13.out (it.length * 16)
          have gc0 := new_cell0 HO13.out HOW.out.1 (by decide) rfl
          have gf1 := World.ownsRow.frozenAt HO13.out (it.length * 16 + 1)
          have gf2 := World.ownsRow.frozenAt HO13.out (it.length * 16 + 2)
          have gf3 := World.ownsRow.frozenAt HO13.out (it.length * 16 + 3)
          have gf4 := World.ownsRow.frozenAt HO13.out (it.length * 16 + 4)
          have gf5 := World.ownsRow.frozenAt HO13.out (it.length * 16 + 5)
          have gf6 := World.ownsRow.frozenAt HO13.out (it.length * 16 + 6)
          have gf7 := World.ownsRow.frozenAt HO13.out (it.length * 16 + 7)
          have gf8 := World.ownsRow.frozenAt HO13.out (it.length * 16 + 8)
          have gf9 := World.ownsRow.frozenAt HO13.out (it.length * 16 + 9)
          have gf10 := World.ownsRow.frozenAt HO13.out (it.length * 16 + 10)
          have gf11 := World.ownsRow.frozenAt HO13.out (it.length * 16 + 11)
          have gf12 := World.ownsRow.frozenAt HO13.out (it.length * 16 + 12)
          have gf13 := World.ownsRow.frozenAt HO13.out (it.length * 16 + 13)
          have gf14 := World.ownsRow.frozenAt HO13.out (it.length * 16 + 14)
          have gf15 := World.ownsRow.frozenAt HO13.out (it.length * 16 + 15)
          have gc1 := new_cell HO13.out HOW.out.1 1 (by decide) rfl
          have gc2 := new_cell HO13.out HOW.out.1 2 (by decide) rfl
          have gc3 := new_cell HO13.out HOW.out.1 3 (by decide) rfl
          have gc4 := new_cell HO13.out HOW.out.1 4 (by decide) rfl
          have gc5 := new_cell HO13.out HOW.out.1 5 (by decide) rfl
          have gc6 := new_cell HO13.out HOW.out.1 6 (by decide) rfl
          have gc7 := new_cell HO13.out HOW.out.1 7 (by decide) rfl
          have gc8 := new_cell HO13.out HOW.out.1 8 (by decide) rfl
          have gc9 := new_cell HO13.out HOW.out.1 9 (by decide) rfl
          have gc10 := new_cell HO13.out HOW.out.1 10 (by decide) rfl
          have gc11 := new_cell HO13.out HOW.out.1 11 (by decide) rfl
          have gc12 := new_cell HO13.out HOW.out.1 12 (by decide) rfl
          have gc13 := new_cell HO13.out HOW.out.1 13 (by decide) rfl
          have gc14 := new_cell HO13.out HOW.out.1 14 (by decide) rfl
          have gc15 := new_cell HO13.out HOW.out.1 15 (by decide) rfl
          obtain ⟨w14, hw14⟩ : ∃ w, (((((((((((((((w13.setCell ⟨g1, it.length * 16, none⟩ (.int .i64 x.ln)).setCell ⟨g1, it.length * 16 + 1, none⟩ (.int .i64 x.cl)).setCell ⟨g1, it.length * 16 + 2, none⟩ (.pointer q)).setCell ⟨g1, it.length * 16 + 3, none⟩ (.string (X.ba x.e.id))).setCell ⟨g1, it.length * 16 + 4, none⟩ (.string (X.ba x.e.nm))).setCell ⟨g1, it.length * 16 + 5, none⟩ (.int .u8 x.e.kind)).setCell ⟨g1, it.length * 16 + 6, none⟩ (.string (X.ba x.e.inn))).setCell ⟨g1, it.length * 16 + 7, none⟩ (.string (X.ba x.e.dflt))).setCell ⟨g1, it.length * 16 + 8, none⟩ (.string (X.ba x.e.att))).setCell ⟨g1, it.length * 16 + 9, none⟩ (.int .u8 0)).setCell ⟨g1, it.length * 16 + 10, none⟩ (.string ⟨#[]⟩)).setCell ⟨g1, it.length * 16 + 11, none⟩ (.string ⟨#[]⟩)).setCell ⟨g1, it.length * 16 + 12, none⟩ (.int .i64 0)).setCell ⟨g1, it.length * 16 + 13, none⟩ (.int .i64 x.e.tries)).setCell ⟨g1, it.length * 16 + 14, none⟩ (.string (X.ba x.called))).setCell ⟨g1, it.length * 16 + 15, none⟩ (.slice a 0 0) = w := ⟨_, rfl⟩
          obtain ⟨w15, hw15⟩ : ∃ w, w13.setCell ⟨X0, 3, none⟩ (.slice (some ⟨g1, 0, none⟩) (it.length + 1) cap1) = w := ⟨_, rfl⟩
          obtain ⟨w17, hw17⟩ : ∃ w, w14.setCell ⟨X0, 3, none⟩ (.slice (some ⟨g1, 0, none⟩) (it.length + 1) cap1) = w := ⟨_, rfl⟩
          have hs14 : sts w13 g1 (it.length * 16) [.int .i64 x.ln, .int .i64 x.cl, .pointer q, .string (X.ba x.e.id), .string (X.ba x.e.nm), .int .u8 x.e.kind, .string (X.ba x.e.inn), .string (X.ba x.e.dflt), .string (X.ba x.e.att), .int .u8 0, .string ⟨#[]⟩, .string ⟨#[]⟩, .int .i64 0, .int .i64 x.e.tries, .string (X.ba x.called), .slice a 0 0] = w14 := hw14
          have HP17 : Hid (PL W H [.string n.sp, .string n.lo, av, .slice (some ⟨gk, ok, none⟩) L kc, .string n.tx, .int .i64 n.ln, .int .i64 n.cl] X0 t1 t2 va (it ++ [x]) (.slice vad va.length vcp) (.slice (some ⟨g1, 0, none⟩) (it.length + 1) cap1) (ic ++ [.int .i64 x.ln, .int .i64 x.cl, .pointer q, .string (X.ba x.e.id), .string (X.ba x.e.nm), .int .u8 x.e.kind, .string (X.ba x.e.inn), .string (X.ba x.e.dflt), .string (X.ba x.e.att), .int .u8 0, .string ⟨#[]⟩, .string ⟨#[]⟩, .int .i64 0, .int .i64 x.e.tries, .string (X.ba x.called), .slice a 0 0]) w17) := by
           show PL _ _ _ _ _ _ _ _ _ _ _ _
           rw [← hw17, ← hs14]
           exact HP13.out
          have HX14 : Hid (w14.heap[X0]? = some (.cells #[.string t1, .string t2, .slice vad va.length vcp, .slice iad it.length icp] 106 (0, 0))) := by
           show _ = _
           rw [← hs14]
           exact ((sts_grown _ w13 g1 _).block X0 (Go.lt_of_block HX13.out) (fun e => HGX.out (Option.some.inj e).symm)).trans HX13.out
          have HO15 : Hid (w15.ownsRow (X0 + 1) 144 16 (.slice (some ⟨g1, 0, none⟩) (it.length + 1) cap1) (it.length + 1) (ic ++ zero16)) := by
           show World.ownsRow _ _ _ _ _ _ _
           rw [← hw15]
           exact HO13.out.kept (grownBy_set _ _ _ _) (Or.inr (fun e => HGX.out (Option.some.inj e)))
          have HW16 : Hid ((((((((((((((((w15.setCell ⟨g1, it.length * 16, none⟩ (.int .i64 x.ln)).setCell ⟨g1, it.length * 16 + 1, none⟩ (.int .i64 x.cl)).setCell ⟨g1, it.length * 16 + 2, none⟩ (.pointer q)).setCell ⟨g1, it.length * 16 + 3, none⟩ (.string (X.ba x.e.id))).setCell ⟨g1, it.length * 16 + 4, none⟩ (.string (X.ba x.e.nm))).setCell ⟨g1, it.length * 16 + 5, none⟩ (.int .u8 x.e.kind)).setCell ⟨g1, it.length * 16 + 6, none⟩ (.string (X.ba x.e.inn))).setCell ⟨g1, it.length * 16 + 7, none⟩ (.string (X.ba x.e.dflt))).setCell ⟨g1, it.length * 16 + 8, none⟩ (.string (X.ba x.e.att))).setCell ⟨g1, it.length * 16 + 9, none⟩ (.int .u8 0)).setCell ⟨g1, it.length * 16 + 10, none⟩ (.string ⟨#[]⟩)).setCell ⟨g1, it.length * 16 + 11, none⟩ (.string ⟨#[]⟩)).setCell ⟨g1, it.length * 16 + 12, none⟩ (.int .i64 0)).setCell ⟨g1, it.length * 16 + 13, none⟩ (.int .i64 x.e.tries)).setCell ⟨g1, it.length * 16 + 14, none⟩ (.string (X.ba x.called))).setCell ⟨g1, it.length * 16 + 15, none⟩ (.slice a 0 0) = w17) := by
           show _ = _
           have := sts_comm [.int .i64 x.ln, .int .i64 x.cl, .pointer q, .string (X.ba x.e.id), .string (X.ba x.e.nm), .int .u8 x.e.kind, .string (X.ba x.e.inn), .string (X.ba x.e.dflt), .string (X.ba x.e.att), .int .u8 0, .string ⟨#[]⟩, .string ⟨#[]⟩, .int .i64 0, .int .i64 x.e.tries, .string (X.ba x.called), .slice a 0 0] w13 (b := g1) (c := X0) (o := it.length * 16) (j := 3) (.slice (some ⟨g1, 0, none⟩) (it.length + 1) cap1) HGX.out
           rw [hs14, hw17, hw15] at this
           exact this.symm
          have HW14 := hid hw14
          have HW15 := hid hw15
          have HW17 := hid hw17
          clear hw14 hw15 hw17 hs14
          try dsimp only
          refine hK.out _ _ (fun hk => by cases (show true = false from hk)) (fun _ => ?_)
          clear hK K
          refine wpTill_any 6 (oi := ?oi1007) (v := ?v1007) ?ho1007 (by kernel_rfl) (by kernel_rfl) (by kernel_rfl) (by kernel_rfl) ?hq1007 (Or.inl ⟨?hw1007, ?hy1007⟩) (fun hk => by cases (show true = false from hk)) ?rest1007
          case ho1007 => rfl
          case hw1007 => rfl
          case hy1007 => intro w; go_simp; try with_reducible rfl
          case hq1007 => exact fun _ _ _ h => h
          refine wpTill_any 8 (oi := ?oi1008) (v := ?v1008) ?ho1008 (by kernel_rfl) (by kernel_rfl) (by kernel_rfl) (by kernel_rfl) ?hq1008 (Or.inl ⟨?hw1008, ?hy1008⟩) (fun hk => by cases (show true = false from hk)) ?rest1008
          case ho1008 => rfl
          case hw1008 => rfl
          case hy1008 => intro w; go_simp; try with_reducible rfl
          case hq1008 => exact fun _ _ _ h => h
          refine wpTill_ready (rs := [7, 9]) (by kernel_rfl) (by decide) ?_
          refine AllTill.consH (o := ?oi1009) ?ho1009 (fun K hK => ?step1009) ?more1009
          case ho1009 => rfl
          case step1009 =>
           go_simp
           rw [HW14.out]
           refine hK.out _ _ (fun hk => by cases (show true = false from hk)) (fun _ => ?_)
           clear hK K
           refine wpTill_ready (rs := [9]) (by kernel_rfl) (by decide) ?_
           refine AllTill.consH (o := ?oi1010) ?ho1010 (fun K hK => ?step1010) ?more1010
           case ho1010 => rfl
           case step1010 =>
            clear gc0 gf0 gc1 gf1 gc2 gf2 gc3 gf3 gc4 gf4 gc5 gf5 gc6 gf6 gc7 gf7 gc8 gf8 gc9 gf9 gc10 gf10 gc11 gf11 gc12 gf12 gc13 gf13 gc14 gf14 gc15 gf15
            clear y0 y1 y2 y3 yf0 yf1 yf2 yf3
            obtain ⟨y0, y1, y2, y3, yf0, yf1, yf2, yf3⟩ := rowN4 HX14.out
            go_simp
            rw [HW17.out]
            refine hK.out _ _ (fun hk => by cases (show true = false from hk)) (fun _ => ?_)
            clear hK K
            refine wpTill_done (by kernel_rfl) ?_ _
            clear y0 y1 y2 y3 yf0 yf1 yf2 yf3
            obtain ⟨i1, hi1⟩ : ∃ i1, i + 1 = i1 := ⟨_, rfl⟩
            have e1 : IntKind.i64.wrap ((i : Int) + 1) = (i1 : Int) := by have := HI2.out; rw [IntKind.wrap_i64] <;> omega
            have HI3 : Hid (i1 + r.length = L ∧ O.things n.ks [] [] = O.things r va (it ++ [x]) ∧ O.fitN r = true ∧ va.length ≤ i1 ∧ (it ++ [x]).length ≤ i1) := by
             have := HI2.out
             refine ⟨by omega, HTH3.out, this.2.1, by omega, ?_⟩
             rw [List.length_append, List.length_singleton]; omega
            have HR3 : Hid ((some (⟨gk, ok, none⟩ : Addr) = some ⟨gk, ok, none⟩ ∨ r = .nil) ∧ r.At W P gk (ok + i1 * 7)) := ⟨Or.inl rfl, by rw [← hi1]; exact HRR.out⟩
            have HM3 : Hid (L - i1 < L - i) := by have := HI2.out; show _ < _; omega
            clear hi1 hbd
            go_wp2_with fail
            go_roundw
            case rel => exact ⟨i1, r, va, it ++ [x], vad, vcp, some ⟨g1, 0, none⟩, cap1, _, rfl, HI3, by first | exact HR3 | exact hid ⟨Or.inl trivial, HR3.out.2⟩, by rw [List.length_append, List.length_singleton]; exact HP17⟩
            case measure => simpa [intOf] using HM3.out
           case more1010 =>
            exact AllTill.nil
          case more1009 =>
           refine AllTill.consH (o := ?oi1011) ?ho1011 (fun K hK => ?step1011) ?more1011
           case ho1011 => rfl
           case step1011 =>
            go_simp
            rw [HW15.out]
            refine hK.out _ _ (fun hk => by cases (show true = false from hk)) (fun _ => ?_)
            clear hK K
            refine wpTill_ready (rs := [7]) (by kernel_rfl) (by decide) ?_
            refine AllTill.consH (o := ?oi1012) ?ho1012 (fun K hK => ?step1012) ?more1012
            case ho1012 => rfl
            case step1012 =>
             clear gc0 gf0 gc1 gf1 gc2 gf2 gc3 gf3 gc4 gf4 gc5 gf5 gc6 gf6 gc7 gf7 gc8 gf8 gc9 gf9 gc10 gf10 gc11 gf11 gc12 gf12 gc13 gf13 gc14 gf14 gc15 gf15
             clear y0 y1 y2 y3 yf0 yf1 yf2 yf3
             have gf0 := World.ownsRow.frozenAt HO15.out (it.length * 16)
             have gc0 := new_cell0 HO15.out HOW.out.1 (by decide) rfl
             have gf1 := World.ownsRow.frozenAt HO15.out (it.length * 16 + 1)
             have gf2 := World.ownsRow.frozenAt HO15.out (it.length * 16 + 2)
             have gf3 := World.ownsRow.frozenAt HO15.out (it.length * 16 + 3)
             have gf4 := World.ownsRow.frozenAt HO15.out (it.length * 16 + 4)
             have gf5 := World.ownsRow.frozenAt HO15.out (it.length * 16 + 5)
             have gf6 := World.ownsRow.frozenAt HO15.out (it.length * 16 + 6)
             have gf7 := World.ownsRow.frozenAt HO15.out (it.length * 16 + 7)
             have gf8 := World.ownsRow.frozenAt HO15.out (it.length * 16 + 8)
             have gf9 := World.ownsRow.frozenAt HO15.out (it.length * 16 + 9)
             have gf10 := World.ownsRow.frozenAt HO15.out (it.length * 16 + 10)
             have gf11 := World.ownsRow.frozenAt HO15.out (it.length * 16 + 11)
             have gf12 := World.ownsRow.frozenAt HO15.out (it.length * 16 + 12)
             have gf13 := World.ownsRow.frozenAt HO15.out (it.length * 16 + 13)
             have gf14 := World.ownsRow.frozenAt HO15.out (it.length * 16 + 14)
             have gf15 := World.ownsRow.frozenAt HO15.out (it.length * 16 + 15)
             have gc1 := new_cell HO15.out HOW.out.1 1 (by decide) rfl
             have gc2 := new_cell HO15.out HOW.out.1 2 (by decide) rfl
             have gc3 := new_cell HO15.out HOW.out.1 3 (by decide) rfl
             have gc4 := new_cell HO15.out HOW.out.1 4 (by decide) rfl
             have gc5 := new_cell HO15.out HOW.out.1 5 (by decide) rfl
             have gc6 := new_cell HO15.out HOW.out.1 6 (by decide) rfl
             have gc7 := new_cell HO15.out HOW.out.1 7 (by decide) rfl
             have gc8 := new_cell HO15.out HOW.out.1 8 (by decide) rfl
             have gc9 := new_cell HO15.out HOW.out.1 9 (by decide) rfl
             have gc10 := new_cell HO15.out HOW.out.1 10 (by decide) rfl
             have gc11 := new_cell HO15.out HOW.out.1 11 (by decide) rfl
             have gc12 := new_cell HO15.out HOW.out.1 12 (by decide) rfl
             have gc13 := new_cell HO15.out HOW.out.1 13 (by decide) rfl
             have gc14 := new_cell HO15.out HOW.out.1 14 (by decide) rfl
             have gc15 := new_cell HO15.out HOW.out.1 15 (by decide) rfl
             go_simp
             rw [HW16.out]
             refine hK.out _ _ (fun hk => by cases (show true = false from hk)) (fun _ => ?_)
             clear hK K
             refine wpTill_done (by kernel_rfl) ?_ _
             clear gc0 gf0 gc1 gf1 gc2 gf2 gc3 gf3 gc4 gf4 gc5 gf5 gc6 gf6 gc7 gf7 gc8 gf8 gc9 gf9 gc10 gf10 gc11 gf11 gc12 gf12 gc13 gf13 gc14 gf14 gc15 gf15
             obtain ⟨i1, hi1⟩ : ∃ i1, i + 1 = i1 := ⟨_, rfl⟩
             have e1 : IntKind.i64.wrap ((i : Int) + 1) = (i1 : Int) := by have := HI2.out; rw [IntKind.wrap_i64] <;> omega
             have HI3 : Hid (i1 + r.length = L ∧ O.things n.ks [] [] = O.things r va (it ++ [x]) ∧ O.fitN r = true ∧ va.length ≤ i1 ∧ (it ++ [x]).length ≤ i1) := by
              have := HI2.out
              refine ⟨by omega, HTH3.out, this.2.1, by omega, ?_⟩
              rw [List.length_append, List.length_singleton]; omega
             have HR3 : Hid ((some (⟨gk, ok, none⟩ : Addr) = some ⟨gk, ok, none⟩ ∨ r = .nil) ∧ r.At W P gk (ok + i1 * 7)) := ⟨Or.inl rfl, by rw [← hi1]; exact HRR.out⟩
             have HM3 : Hid (L - i1 < L - i) := by have := HI2.out; show _ < _; omega
             clear hi1 hbd
             go_wp2_with fail
             go_roundw
             case rel => exact ⟨i1, r, va, it ++ [x], vad, vcp, some ⟨g1, 0, none⟩, cap1, _, rfl, HI3, by first | exact HR3 | exact hid ⟨Or.inl trivial, HR3.out.2⟩, by rw [List.length_append, List.length_singleton]; exact HP17⟩
             case measure => simpa [intOf] using HM3.out
            case more1012 =>
             exact AllTill.nil
           case more1011 =>
            exact AllTill.nil
         case more1006 =>
          exact AllTill.nil
       case more1005 =>
         exact AllTill.nil
end Go.Proofs.YteejphiklpnjhaaGreatDoor
