/- A variable that is a number. -/
import Derived.Test.YteejphiklpnjhaaGreatDoorOVal
import Derived.Test.YteejphiklpnjhaaGreatDoorOElemH
namespace Go.Proofs.YteejphiklpnjhaaGreatDoor
set_option maxRecDepth 100000
set_option maxHeartbeats 16000000
open Go.RowKit Go.Maps
open Go.Lib (hid)
theorem sizeBind : (Tryz.prog.info? 51).map (·.size) = some 5 := by kernel_rfl
def VaOf (W0 : World) (x : Except O.Er O.Va) (en : Ending) (W : World) : Prop :=
 (∃ i, x = .ok i ∧ en = .returned (.tuple #[.agg (vaC i).toArray, .pointer none]) ∧ Below W0.heap.size W0 W) ∨ (∃ e, x = .error e ∧ FailOf W0 e zero5 en W)
theorem NB.var {W w : World} {H : Nat} {cs ds : List Value} (h : NB W H cs 5 51 w) {x : Except O.Er O.Va} {i : O.Va} (hx : x = .ok i) (hi : ds = vaC i) :
  VaOf W x (.returned (.tuple #[.agg ds.toArray, .pointer none])) (sts w (H + 1) 0 ds) := by
 subst hi
 exact Or.inl ⟨i, hx, rfl, by rw [h.h]; exact h.setB _⟩
theorem X.look_mem : ∀ (k : X.K) (p v : List UInt8), X.look k p = some v → (p, v) ∈ k
 | [], _, _, h => by cases h
 | (a, u) :: r, p, v, h => by
   unfold X.look at h
   by_cases e : a = p
   · rw [if_pos e] at h
     obtain rfl := Option.some.inj h
     rw [e]
     exact List.mem_cons_self
   · rw [if_neg e] at h
     exact List.mem_cons_of_mem _ (X.look_mem r p v h)
theorem O.one_small {N : Nat} {rs : O.Rules} {a : X.A} {g g' : O.Got} (h : O.one rs a g = .ok g') (hg : ∀ q ∈ g.vals, q.2.length ≤ N) (ha : a.va.data.toList.length ≤ N) : ∀ q ∈ g'.vals, q.2.length ≤ N := by
 unfold O.one at h
 cases hn : O.nameOf a.sp.data.toList a.lo.data.toList with
 | none => rw [hn] at h; cases h
 | some nm =>
   rw [hn] at h
   simp only [] at h
   cases hu : X.lookG rs nm with
   | none => rw [hu] at h; cases h
   | some u =>
     rw [hu] at h
     simp only [] at h
     have key : ∀ q ∈ (nm, a.va.data.toList) :: g.vals, q.2.length ≤ N := fun q hq => by
       rcases List.mem_cons.1 hq with rfl | hq
       · exact ha
       · exact hg q hq
     split at h
     · cases h
     · split at h
       · split at h
         · cases h; exact key
         · cases h
       · cases h; exact key
theorem O.readA_small {N : Nat} {rs : O.Rules} : ∀ (al : List X.A) (g g' : O.Got), O.readA rs al g = .ok g' → (∀ q ∈ g.vals, q.2.length ≤ N) → (∀ a ∈ al, a.va.data.toList.length ≤ N) → ∀ q ∈ g'.vals, q.2.length ≤ N
 | [], g, g', h, hg, _ => by cases h; exact hg
 | a :: r, g, g', h, hg, ha => by
   unfold O.readA at h
   cases h1 : O.one rs a g with
   | error e => rw [h1] at h; cases h
   | ok g1 =>
     rw [h1] at h
     exact O.readA_small r g1 g' h (O.one_small h1 hg (ha a List.mem_cons_self)) (fun x hx => ha x (List.mem_cons_of_mem _ hx))
theorem O.read_small {N : Nat} {rs : O.Rules} {al : List X.A} {g : O.Got} (h : O.read rs al = .ok g) (ha : ∀ a ∈ al, a.va.data.toList.length ≤ N) {p v : List UInt8} (hv : X.look g.vals p = some v) : v.length ≤ N := by
 unfold O.read at h
 cases h1 : O.readA rs al ⟨[], []⟩ with
 | error e => rw [h1] at h; cases h
 | ok g1 =>
   rw [h1] at h
   simp only [] at h
   split at h
   · cases h
     exact O.readA_small al _ _ h1 (by simp) ha _ (X.look_mem _ _ _ hv)
   · cases h
theorem var_eq (n : X.E) : O.var n = match plainE n with | some e => .error e | none => match O.read O.varRules (X.E.as n) with
   | .error e => .error (e, n.ln, n.cl)
   | .ok g => match X.look g.vals [105, 110, 105, 116] with
     | none => .ok ⟨O.get g [110, 97, 109, 101], 0⟩
     | some s => if (O.numOf s).2 = true then .ok ⟨O.get g [110, 97, 109, 101], (O.numOf s).1⟩ else .error (1, n.ln, n.cl) := by
 unfold O.var plainE
 by_cases h : O.trim n.tx.data.toList ≠ []
 · rw [if_pos h, if_pos h]
 · rw [if_neg h, if_neg h]
   rfl
theorem var_text {P : Nat → Prop} {W : World} {n : X.E} {cs : List Value} (ok : NodeOk W P n cs) {e : O.Er} (hp : plainE n = some e) {RES : Except O.Er O.Va} (HRES : RES = .error e) :
   Calls Tryz.prog 67 #[.agg cs.toArray] W (VaOf W RES) := by
 have OK := hid ok
 have HX := hid HRES
 obtain ⟨av, kv, rfl, hA, hK⟩ := ok.has
 obtain ⟨ka, kc, rfl⟩ : ∃ a c, kv = .slice a 0 c := by
   have := hK.shape
   rw [ok.k] at this
   exact this
 obtain ⟨H, hH⟩ : ∃ H, W.heap.size = H := ⟨_, rfl⟩
 obtain ⟨w1, hw1⟩ : ∃ w1, (W.alloc (.cells #[.string n.sp, .string n.lo, av, .slice ka 0 kc, .string n.tx, .int .i64 n.ln, .int .i64 n.cl] 44)).alloc (.cells #[.string ⟨#[]⟩, .int .u8 0, .int .i64 0, .bool false, .string ⟨#[]⟩] 51) = w1 := ⟨_, rfl⟩
 have HN1 : Hid (NB W H [.string n.sp, .string n.lo, av, .slice ka 0 kc, .string n.tx, .int .i64 n.ln, .int .i64 n.cl] 5 51 w1) := by
   show NB _ _ _ _ _ _
   rw [← hw1, ← hH]
   exact nb_first W _ zero5 _
 have HB1 : Hid (Below W.heap.size W w1) := by
   have := HN1.out.b
   rw [← hH] at this
   exact this
 obtain ⟨a0, a1, a2, a3, a4, a5, a6⟩ := row7 HN1.out.n
 have HW1 := hid hw1
 have HH := hid hH
 have cP := plain_any (hasB OK.out.has OK.out.p HB1.out) OK.out.t
 clear hA hK ok hw1 hH
 go_enter Tryz.func67, Tryz.ntmps67
 go_upto_region 1 with fail
 rw [HW1.out, HH.out]
 clear HW1
 rw [hp] at cP
 have HSZ := hid HN1.out.sz
 clear hp
 go_wp2_with fail
 refine cP.mono ?_
 rintro en w3 (⟨h, -, -⟩ | ⟨e', f, hx, rfl, hf, hr, hb⟩)
 · cases h
 obtain rfl := Option.some.inj hx
 have HN3 := hid (HN1.out.below hb)
 have HR := hid hr
 have HF := hid hf
 clear hf hr hb cP a0 a1 a2 a3 a4 a5 a6 hx
 obtain ⟨rs, hrk, hrow⟩ := HN3.out.r
 obtain ⟨x0, x1, x2, x3, x4, rfl⟩ := len5 hrk
 obtain ⟨y0, y1, y2, y3, y4, yf0, yf1, yf2, yf3, yf4⟩ := rowN5 hrow
 clear hrk hrow
 go_wp2_with fail
 exact bodyPost_ret (v := .tuple #[.agg zero5.toArray, .pointer (some ⟨f, 0, none⟩)]) (results_pair rfl _ _ (H + 1) 51 _ (0, 0) _ (.pointer (some ⟨f, 0, none⟩)) rfl (HN3.out.set zero5 rfl) rfl Tryz.underlying51 rfl sizeBind) rfl (Or.inr ⟨e, HX.out, HN3.out.pass zero5 e (by have := HSZ.out; have := HF.out; omega) HR.out⟩)
theorem var_ok {P : Nat → Prop} {W : World} {n : X.E} {cs : List Value} (ok : NodeOk W P n cs) (hp : plainE n = none) (hi : ∀ g, O.read [([105, 110, 105, 116], ⟨false, false, []⟩), ([116, 121, 112, 101], ⟨true, false, []⟩), ([110, 97, 109, 101], ⟨true, false, []⟩)] (X.E.as n) = .ok g → X.look g.vals [116, 121, 112, 101] = some [105, 110, 116]) {RES : Except O.Er O.Va} (HRES : RES = match O.read [([105, 110, 105, 116], ⟨false, false, []⟩), ([116, 121, 112, 101], ⟨true, false, []⟩), ([110, 97, 109, 101], ⟨true, false, []⟩)] (X.E.as n) with | .error e => .error (e, n.ln, n.cl) | .ok g => match X.look g.vals [105, 110, 105, 116] with | none => .ok ⟨O.get g [110, 97, 109, 101], 0⟩ | some s => if (O.numOf s).2 = true then .ok ⟨O.get g [110, 97, 109, 101], (O.numOf s).1⟩ else .error (1, n.ln, n.cl)) :
   Calls Tryz.prog 67 #[.agg cs.toArray] W (VaOf W RES) := by
 have OK := hid ok
 have HX1 := hid HRES
 have HQ := hid hi
 clear hi HRES
 obtain ⟨av, kv, rfl, hA, hK⟩ := ok.has
 obtain ⟨ka, kc, rfl⟩ : ∃ a c, kv = .slice a 0 c := by
   have := hK.shape
   rw [ok.k] at this
   exact this
 obtain ⟨H, hH⟩ : ∃ H, W.heap.size = H := ⟨_, rfl⟩
 obtain ⟨w1, hw1⟩ : ∃ w1, (W.alloc (.cells #[.string n.sp, .string n.lo, av, .slice ka 0 kc, .string n.tx, .int .i64 n.ln, .int .i64 n.cl] 44)).alloc (.cells #[.string ⟨#[]⟩, .int .u8 0, .int .i64 0, .bool false, .string ⟨#[]⟩] 51) = w1 := ⟨_, rfl⟩
 have HN1 : Hid (NB W H [.string n.sp, .string n.lo, av, .slice ka 0 kc, .string n.tx, .int .i64 n.ln, .int .i64 n.cl] 5 51 w1) := by
   show NB _ _ _ _ _ _
   rw [← hw1, ← hH]
   exact nb_first W _ zero5 _
 have HB1 : Hid (Below W.heap.size W w1) := by
   have := HN1.out.b
   rw [← hH] at this
   exact this
 obtain ⟨a0, a1, a2, a3, a4, a5, a6⟩ := row7 HN1.out.n
 have HW1 := hid hw1
 have HH := hid hH
 have cP := plain_any (hasB OK.out.has OK.out.p HB1.out) OK.out.t
 clear hA hK ok hw1 hH
 go_enter Tryz.func67, Tryz.ntmps67
 go_upto_region 1 with fail
 rw [HW1.out, HH.out]
 clear HW1
 rw [hp] at cP
 clear hp
 go_wp2_with fail
 refine cP.mono ?_
 rintro en w3 (⟨-, rfl, hb⟩ | ⟨e', f, h, -, -⟩)
 rotate_left
 · cases h
 have HN3 := hid (HN1.out.below hb)
 have HB3 := hid (HB1.out.trans (hb.mono HB1.out.size))
 clear hb cP a0 a1 a2 a3 a4 a5 a6
 obtain ⟨b0, b1, b2, b3, b4, b5, b6⟩ := row7 HN3.out.n
 have hmm := @run_makeMap Tryz.prog
 have m0 : RM (w3.alloc (.map #[] 0)) w3.heap.size 0 [] := World.ownsMap_made (H := Unit) w3 Tryz.prog 9 ruleR
 obtain ⟨mw1, mr1, m1, mt1⟩ := RM.put m0 (by unfold maxLen; omega) ⟨#[110, 97, 109, 101]⟩ (by decide) ⟨true, false, []⟩
 have mu1 : (Instr.mapUpdate 99 (.map (some w3.heap.size)) (.string ⟨#[110, 97, 109, 101]⟩) (.agg #[.bool true, .bool false, .string ⟨#[]⟩])).run Tryz.prog (w3.alloc (.map #[] 0)) = .ok () mw1 := mr1
 obtain ⟨mw2, mr2, m2, mt2⟩ := RM.put m1 (by unfold maxLen; omega) ⟨#[116, 121, 112, 101]⟩ (by decide) ⟨true, false, []⟩
 have mu2 : (Instr.mapUpdate 99 (.map (some w3.heap.size)) (.string ⟨#[116, 121, 112, 101]⟩) (.agg #[.bool true, .bool false, .string ⟨#[]⟩])).run Tryz.prog mw1 = .ok () mw2 := mr2
 obtain ⟨mw3, mr3, m3, mt3⟩ := RM.put m2 (by unfold maxLen; omega) ⟨#[105, 110, 105, 116]⟩ (by decide) ⟨false, false, []⟩
 have mu3 : (Instr.mapUpdate 99 (.map (some w3.heap.size)) (.string ⟨#[105, 110, 105, 116]⟩) (.agg #[.bool false, .bool false, .string ⟨#[]⟩])).run Tryz.prog mw2 = .ok () mw3 := mr3
 have mb : Below w3.heap.size w3 mw3 := by
   have b0 : Below w3.heap.size w3 (w3.alloc (.map #[] 0)) := (Below.refl _ w3).alloc (Nat.le_refl _) _
   have g := ((mt1.grown.trans mt2.grown).trans mt3.grown)
   exact b0.grown g b0.size (fun q hq => by simp at hq; omega)
 clear mr1 mr2 mr3 mt1 mt2 mt3 m0 m1 m2
 have HN4 := hid (HN3.out.below mb)
 have HB4 := hid (HB3.out.trans (mb.mono HB3.out.size))
 have HM : Hid (RM mw3 w3.heap.size 3 [([105, 110, 105, 116], ⟨false, false, []⟩), ([116, 121, 112, 101], ⟨true, false, []⟩), ([110, 97, 109, 101], ⟨true, false, []⟩)]) := m3
 obtain ⟨M, hM⟩ : ∃ M, w3.heap.size = M := ⟨_, rfl⟩
 rw [hM] at HM
 have c2 := read_any (hasB OK.out.has OK.out.p HB4.out) (fun b hb => Nat.lt_of_lt_of_le (OK.out.p b hb) HB4.out.size) HM.out (OK.out.e.below HB4.out) OK.out.l OK.out.s (by decide)
 have HME := hid hM
 have HS4 := hid HN4.out.sz
 clear mb m3 hM
 obtain ⟨c0, c1, c3, c4, c5, c6, c7⟩ := row7 HN4.out.n
 go_wp2_with fail
 rw [HME.out]
 refine c2.mono ?_
 clear c0 c1 c3 c4 c5 c6 c7 mu1 mu2 mu3
 intro en w5 hrd
 obtain ⟨A, hA⟩ : ∃ A, w5.heap.size = A := ⟨_, rfl⟩
 rcases hrd with ⟨g, Mv, Mn, hx, rfl, hv1, hn1, hKM, hKN, hb⟩ | ⟨er, ma, mc, f, hx, rfl, hf, hr, hb⟩
 rotate_left
 · have HX : Hid (RES = .error (er, n.ln, n.cl)) := by
     show _ = _
     rw [HX1.out, hx]
   obtain ⟨w6, hw6⟩ : ∃ w6, w5.alloc (.cells #[.map ma, .map mc] 94) = w6 := ⟨_, rfl⟩
   have hb6 : Below w5.heap.size w5 w6 := by rw [← hw6]; exact (Below.refl _ w5).alloc (Nat.le_refl _) _
   have HN6 := hid ((HN4.out.below hb).below hb6)
   have HF := hid hf
   have HR : Hid (w6.heap[f]? = some (faultRow er n.ln n.cl)) := (hb6.block f (Go.lt_of_block hr)).trans hr
   have HW6 := hid hw6
   have HAE := hid hA
   clear hx hf hr hb hb6 hw6 hA c2 b0 b1 b2 b3 b4 b5 b6
   go_upto_region 5 with fail
   rw [HW6.out, HAE.out]
   clear HW6 HAE
   obtain ⟨rs, hrk, hrow⟩ := HN6.out.r
   obtain ⟨x0, x1, x2, x3, x4, rfl⟩ := len5 hrk
   obtain ⟨y0, y1, y2, y3, y4, yf0, yf1, yf2, yf3, yf4⟩ := rowN5 hrow
   clear hrk hrow
   go_wp2_with fail
   exact bodyPost_ret (v := .tuple #[.agg zero5.toArray, .pointer (some ⟨f, 0, none⟩)]) (results_pair rfl _ _ (H + 1) 51 _ (0, 0) _ (.pointer (some ⟨f, 0, none⟩)) rfl (HN6.out.set zero5 rfl) rfl Tryz.underlying51 rfl sizeBind) rfl (Or.inr ⟨(er, n.ln, n.cl), HX.out, HN6.out.pass zero5 (er, n.ln, n.cl) (by have := HS4.out; have := HF.out; omega) HR.out⟩)
 have HT2 := hid (HQ.out g hx)
 have HSM : Hid (∀ v, X.look g.vals [105, 110, 105, 116] = some v → v.length ≤ 100000) := fun v hv => O.read_small hx (fun a ha => (OK.out.s a ha).2) hv
 clear HQ
 have HX2 : Hid (RES = match X.look g.vals [105, 110, 105, 116] with | none => .ok ⟨O.get g [110, 97, 109, 101], 0⟩ | some s => if (O.numOf s).2 = true then .ok ⟨O.get g [110, 97, 109, 101], (O.numOf s).1⟩ else .error (1, n.ln, n.cl)) := by
   show _ = _
   rw [HX1.out, hx]
 obtain ⟨w6, hw6⟩ : ∃ w6, w5.alloc (.cells #[.map (some Mv), .map (some Mn)] 94) = w6 := ⟨_, rfl⟩
 have hb6 : Below w5.heap.size w5 w6 := by rw [← hw6]; exact (Below.refl _ w5).alloc (Nat.le_refl _) _
 have HN6 := hid ((HN4.out.below hb).below hb6)
 have HB6 := hid ((HB4.out.trans (hb.mono HB4.out.size)).trans (hb6.mono ((HB4.out.trans (hb.mono HB4.out.size)).size)))
 have HA6 : Hid (w6.heap[A]? = some (.cells #[.map (some Mv), .map (some Mn)] 94 (0, 0))) := by show _ = _; rw [← hw6, ← hA]; exact heap_alloc_new w5 _
 have HK6 := hid (hKM.below hb6)
 have HW6 := hid hw6
 have HAE := hid hA
 have u0 : KU (w6.alloc (.map #[] 0)) w6.heap.size 0 [] := World.ownsMap_made (H := Unit) w6 Tryz.prog 9 (plainElem Tryz.prog 5)
 obtain ⟨v1, y1, u1, t1⟩ := u0.put (by unfold maxLen; omega) ⟨#[105, 110, 116]⟩ (by decide) 1 (by decide)
 have z1 : (Instr.mapUpdate 176 (.map (some w6.heap.size)) (.string ⟨#[105, 110, 116]⟩) (.int .u8 1)).run Tryz.prog (w6.alloc (.map #[] 0)) = .ok () v1 := y1
 obtain ⟨v2, y2, u2, t2⟩ := u1.put (by unfold maxLen; omega) ⟨#[98, 111, 111, 108]⟩ (by decide) 2 (by decide)
 have z2 : (Instr.mapUpdate 176 (.map (some w6.heap.size)) (.string ⟨#[98, 111, 111, 108]⟩) (.int .u8 2)).run Tryz.prog v1 = .ok () v2 := y2
 obtain ⟨v3, y3, u3, t3⟩ := u2.put (by unfold maxLen; omega) ⟨#[116, 101, 120, 116]⟩ (by decide) 3 (by decide)
 have z3 : (Instr.mapUpdate 176 (.map (some w6.heap.size)) (.string ⟨#[116, 101, 120, 116]⟩) (.int .u8 3)).run Tryz.prog v2 = .ok () v3 := y3
 have hb7 : Below w6.heap.size w6 v3 := by
   have b0 : Below w6.heap.size w6 (w6.alloc (.map #[] 0)) := (Below.refl _ w6).alloc (Nat.le_refl _) _
   have g := (t1.grown.trans t2.grown).trans t3.grown
   exact b0.grown g b0.size (fun q hq => by simp at hq; omega)
 have HN7 := hid (HN6.out.below hb7)
 have HB7 := hid (HB6.out.trans (hb7.mono HB6.out.size))
 have HA7 : Hid (v3.heap[A]? = some (.cells #[.map (some Mv), .map (some Mn)] 94 (0, 0))) := (hb7.block A (Go.lt_of_block HA6.out)).trans HA6.out
 have HK7 := hid (HK6.out.below hb7)
 have k1a := HK7.out.get ⟨#[116, 121, 112, 101]⟩ (by decide)
 rw [show (X.look g.vals (⟨#[116, 121, 112, 101]⟩ : ByteArray).data.toList) = some [105, 110, 116] from HT2.out] at k1a
 have k1 : (Instr.lookup 70 (.map (some Mv)) (.string ⟨#[116, 121, 112, 101]⟩) false).run Tryz.prog v3 = .ok (.string ⟨#[105, 110, 116]⟩) v3 := k1a
 have k2a := u3.look_some ⟨#[105, 110, 116]⟩ (by decide) (x := 1) rfl
 have k2 : (Instr.lookup 176 (.map (some w6.heap.size)) (.string ⟨#[105, 110, 116]⟩) true).run Tryz.prog v3 = .ok (.tuple #[.int .u8 1, .bool true]) v3 := k2a
 clear k1a k2a
 obtain ⟨t0, ht0⟩ : ∃ t, X.ba (O.get g [110, 97, 109, 101]) = t := ⟨_, rfl⟩
 have HT0 := hid ht0
 have k3 := HK7.out.get ⟨#[110, 97, 109, 101]⟩ (by decide)
 rw [show X.ba ((X.look g.vals (⟨#[110, 97, 109, 101]⟩ : ByteArray).data.toList).getD []) = t0 from ht0] at k3
 obtain ⟨Y, hY⟩ : ∃ Y, v3.heap.size = Y := ⟨_, rfl⟩
 obtain ⟨w8, hw8⟩ : ∃ w, v3.alloc (.cells #[.string t0, .int .u8 1, .int .i64 0, .bool false, .string ⟨#[]⟩] 51) = w := ⟨_, rfl⟩
 have hb8 : Below v3.heap.size v3 w8 := by rw [← hw8]; exact (Below.refl _ v3).alloc (Nat.le_refl _) _
 have HX8 : Hid (w8.heap[Y]? = some (.cells #[.string t0, .int .u8 1, .int .i64 0, .bool false, .string ⟨#[]⟩] 51 (0, 0))) := by show _ = _; rw [← hw8, ← hY]; exact heap_alloc_new _ _
 have HN8 := hid (HN7.out.below hb8)
 have HB8 := hid (HB7.out.trans (hb8.mono HB7.out.size))
 have HA8 : Hid (w8.heap[A]? = some (.cells #[.map (some Mv), .map (some Mn)] 94 (0, 0))) := (hb8.block A (Go.lt_of_block HA7.out)).trans HA7.out
 have HK8 := hid (HK7.out.below hb8)
 have HY := hid hY
 have HYN : Hid (H + 2 ≤ Y) := by show _ ≤ _; rw [← hY]; exact HN7.out.sz
 have HW8 := hid hw8
 have hlk := HK8.out.look ⟨#[105, 110, 105, 116]⟩ (by decide)
 clear hx hv1 hn1 hKM hKN hb hb6 hw6 hA c2 b0 b1 b2 b3 b4 b5 b6 u0 u1 u2 u3 t1 t2 t3 y1 y2 y3 hb7 hb8 ht0 hY hw8
 obtain ⟨e0, e1⟩ := rowN2' HA7.out
 go_upto_region 5 with fail
 rw [HW6.out, HAE.out]
 clear HW6 HAE
 obtain ⟨d0, d1⟩ := rowN2' HA6.out
 go_upto_region 11 with fail
 rw [HY.out, HW8.out]
 clear HW8 HY k1 k2 k3 z1 z2 z3 e0 e1 d0 d1
 obtain ⟨e0, e1⟩ := rowN2' HA8.out
 rcases hl : X.look g.vals [105, 110, 105, 116] with _ | s
 · have HX : Hid (RES = .ok ⟨O.get g [110, 97, 109, 101], 0⟩) := by show _ = _; rw [HX2.out, hl]
   have hlk2 : (Instr.lookup 70 (.map (some Mv)) (.string ⟨#[105, 110, 105, 116]⟩) true).run Tryz.prog w8 = .ok (.tuple #[.string ⟨#[]⟩, .bool false]) w8 := by
     rw [show X.look g.vals (⟨#[105, 110, 105, 116]⟩ : ByteArray).data.toList = none from hl] at hlk
     exact hlk
   obtain ⟨x0, x1, x2, x3, x4, -⟩ := rowN5 HX8.out
   obtain ⟨-, -, -, b3, -, -, -⟩ := row7 HN8.out.n
   obtain ⟨rs, hrk, hrow⟩ := HN8.out.r
   obtain ⟨r0, r1, r2, r3, r4, rfl⟩ := len5 hrk
   obtain ⟨y0, y1, y2, y3, y4, yf0, yf1, yf2, yf3, yf4⟩ := rowN5 hrow
   clear hrk hrow hlk hl HSM
   go_wp2_with fail
   exact bodyPost_ret (v := .tuple #[.agg #[.string t0, .int .u8 1, .int .i64 0, .bool false, .string ⟨#[]⟩], .pointer none]) (results_pair rfl _ _ (H + 1) 51 _ (0, 0) _ (.pointer none) rfl (HN8.out.set [.string t0, .int .u8 1, .int .i64 0, .bool false, .string ⟨#[]⟩] rfl) rfl Tryz.underlying51 rfl sizeBind) rfl (HN8.out.var HX.out (by rw [← HT0.out]; rfl))
 · obtain ⟨sb, hsb⟩ : ∃ t, X.ba s = t := ⟨_, rfl⟩
   have hsl : sb.data.toList = s := by rw [← hsb]; exact Lib.toList_data _ ▸ ba_toList s
   have HSZ := hid (HSM.out s hl)
   have HX3 : Hid (RES = if (O.numOf sb.data.toList).2 = true then .ok ⟨O.get g [110, 97, 109, 101], (O.numOf sb.data.toList).1⟩ else .error (1, n.ln, n.cl)) := by show _ = _; rw [HX2.out, hl, hsl]
   have hlk2 : (Instr.lookup 70 (.map (some Mv)) (.string ⟨#[105, 110, 105, 116]⟩) true).run Tryz.prog w8 = .ok (.tuple #[.string sb, .bool true]) w8 := by
     rw [show X.look g.vals (⟨#[105, 110, 105, 116]⟩ : ByteArray).data.toList = some s from hl] at hlk
     rw [← hsb]
     exact hlk
   have hss : sb.size ≤ 17592186044416 := by
     have : sb.size = s.length := by rw [← hsl]; rfl
     have := HSZ.out
     omega
   clear hlk hl hsl hsb HSM
   rcases hq : (O.numOf sb.data.toList).2 with _ | _
   · have HX : Hid (RES = .error (1, n.ln, n.cl)) := by show _ = _; rw [HX3.out, hq]; rfl
     have cV := parse1_no sb w8 (OK.out.e.below HB8.out) hss hq
     clear hq hss
     go_wp2_with fail
     refine cV.mono ?_
     rintro en w9 ⟨rfl, hb9⟩
     obtain ⟨w10, hw10⟩ : ∃ w, w9.alloc (.cells #[.int .u8 0, .int .i64 0, .bool false, .string ⟨#[]⟩] 49) = w := ⟨_, rfl⟩
     have hb10 : Below w8.heap.size w8 w10 := by rw [← hw10]; exact hb9.alloc hb9.size _
     have HN10 := hid (HN8.out.below hb10)
     have HW10 := hid hw10
     clear cV hb9 hw10 hb10 hlk2 e0 e1
     go_upto_region 14 with fail
     rw [HW10.out]
     clear HW10
     obtain ⟨rs, hrk, hrow⟩ := HN10.out.r
     obtain ⟨x0, x1, x2, x3, x4, rfl⟩ := len5 hrk
     obtain ⟨y0, y1, y2, y3, y4, yf0, yf1, yf2, yf3, yf4⟩ := rowN5 hrow
     obtain ⟨-, -, -, -, -, b5, b6⟩ := row7 HN10.out.n
     have z1 : H + 1 < w10.heap.size := by have := HN10.out.sz; omega
     have z0 : H < w10.heap.size := by omega
     clear hrk hrow
     go_upto_region 15 with fail
     go_region
     clear y0 yf0 y1 yf1 y2 yf2 y3 yf3 y4 yf4 z0 z1 b5 b6
     go_wp2_with fail
     exact bodyPost_ret (v := .tuple #[.agg zero5.toArray, .pointer (some ⟨w10.heap.size, 0, none⟩)]) (results_pair rfl _ _ (H + 1) 51 _ (0, 0) _ (.pointer (some ⟨w10.heap.size, 0, none⟩)) rfl (HN10.out.faultR zero5 rfl _) rfl Tryz.underlying51 rfl sizeBind) rfl (Or.inr ⟨_, HX.out, HN10.out.fault zero5 _ _ _⟩)
   · obtain ⟨v, hv⟩ : ∃ v, (O.numOf sb.data.toList).1 = v := ⟨_, rfl⟩
     have HX : Hid (RES = .ok ⟨O.get g [110, 97, 109, 101], v⟩) := by show _ = _; rw [HX3.out, hq, hv]; rfl
     have cV := parse1_yes sb w8 (OK.out.e.below HB8.out) hss hq
     rw [hv] at cV
     clear hq hss hv HX3
     go_wp2_with fail
     refine cV.mono ?_
     rintro en w9 ⟨rfl, hb9⟩
     obtain ⟨Z, hZ⟩ : ∃ Z, w9.heap.size = Z := ⟨_, rfl⟩
     obtain ⟨w10, hw10⟩ : ∃ w, w9.alloc (.cells #[.int .u8 1, .int .i64 v, .bool false, .string ⟨#[]⟩] 49) = w := ⟨_, rfl⟩
     have hb10 : Below w8.heap.size w8 w10 := by rw [← hw10]; exact hb9.alloc hb9.size _
     have HN10 := hid (HN8.out.below hb10)
     have HX10 : Hid (w10.heap[Y]? = some (.cells #[.string t0, .int .u8 1, .int .i64 0, .bool false, .string ⟨#[]⟩] 51 (0, 0))) := (hb10.block Y (Go.lt_of_block HX8.out)).trans HX8.out
     have HZ10 : Hid (w10.heap[Z]? = some (.cells #[.int .u8 1, .int .i64 v, .bool false, .string ⟨#[]⟩] 49 (0, 0))) := by show _ = _; rw [← hw10, ← hZ]; exact heap_alloc_new _ _
     obtain ⟨w11, hw11⟩ : ∃ w, (((w10.setCell ⟨Y, 1, none⟩ (.int .u8 1)).setCell ⟨Y, 2, none⟩ (.int .i64 v)).setCell ⟨Y, 3, none⟩ (.bool false)).setCell ⟨Y, 4, none⟩ (.string ⟨#[]⟩) = w := ⟨_, rfl⟩
     have hs11 : sts w10 Y 1 [.int .u8 1, .int .i64 v, .bool false, .string ⟨#[]⟩] = w11 := hw11
     have HX11 : Hid (w11.heap[Y]? = some (.cells #[.string t0, .int .u8 1, .int .i64 v, .bool false, .string ⟨#[]⟩] 51 (0, 0))) := by
      show _ = _
      rw [← hs11]
      exact sts_mid [.int .u8 1, .int .i64 v, .bool false, .string ⟨#[]⟩] [.string t0] [.int .u8 1, .int .i64 0, .bool false, .string ⟨#[]⟩] [] w10 HX10.out rfl
     have hg11 : w10.grownBy w11 (some Y) := by rw [← hs11]; exact sts_grown _ _ _ _
     have HN11 := hid (HN10.out.grown hg11 HYN.out)
     have HW10 := hid hw10
     have HZE := hid hZ
     have HW11 := hid hw11
     clear cV hb9 hw10 hb10 hlk2 e0 e1 hs11 hg11 hw11 hZ
     go_upto_region 14 with fail
     rw [HW10.out, HZE.out]
     clear HW10 HZE
     obtain ⟨z0, z1, z2, z3⟩ := row4 HZ10.out
     obtain ⟨x0, x1, x2, x3, x4, xf0, xf1, xf2, xf3, xf4⟩ := rowN5 HX10.out
     go_upto_region 17 with fail
     rw [HW11.out]
     clear HW11 z0 z1 z2 z3 x0 xf0 x1 xf1 x2 xf2 x3 xf3 x4 xf4
     obtain ⟨x0, x1, x2, x3, x4, -⟩ := rowN5 HX11.out
     obtain ⟨-, -, -, b3, -, -, -⟩ := row7 HN11.out.n
     obtain ⟨rs, hrk, hrow⟩ := HN11.out.r
     obtain ⟨r0, r1, r2, r3, r4, rfl⟩ := len5 hrk
     obtain ⟨y0, y1, y2, y3, y4, yf0, yf1, yf2, yf3, yf4⟩ := rowN5 hrow
     clear hrk hrow
     go_wp2_with fail
     exact bodyPost_ret (v := .tuple #[.agg #[.string t0, .int .u8 1, .int .i64 v, .bool false, .string ⟨#[]⟩], .pointer none]) (results_pair rfl _ _ (H + 1) 51 _ (0, 0) _ (.pointer none) rfl (HN11.out.set [.string t0, .int .u8 1, .int .i64 v, .bool false, .string ⟨#[]⟩] rfl) rfl Tryz.underlying51 rfl sizeBind) rfl (HN11.out.var HX.out (by rw [← HT0.out]; rfl))
theorem var_any {P : Nat → Prop} {W : World} {n : X.E} {cs : List Value} (ok : NodeOk W P n cs) (hi : O.intVar n = true) :
   Calls Tryz.prog 67 #[.agg cs.toArray] W (VaOf W (O.var n)) := by
 have he := var_eq n
 rcases hp : plainE n with _ | e
 · rw [hp] at he
   refine var_ok ok hp (fun g hg => ?_) he
   unfold O.intVar at hi
   rw [show O.read O.varRules (X.E.as n) = .ok g from hg] at hi
   exact of_decide_eq_true hi
 · rw [hp] at he
   exact var_text ok hp he
end Go.Proofs.YteejphiklpnjhaaGreatDoor
