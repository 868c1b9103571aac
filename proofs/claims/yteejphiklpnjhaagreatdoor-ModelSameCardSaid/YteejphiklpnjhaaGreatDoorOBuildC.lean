/- build: its processes. -/
import Derived.Test.YteejphiklpnjhaaGreatDoorOA4
import Derived.Test.YteejphiklpnjhaaGreatDoorOProc
namespace Go.Proofs.YteejphiklpnjhaaGreatDoor
set_option maxRecDepth 100000
set_option maxHeartbeats 16000000
open Go.RowKit Go.Maps
open Go.Lib (hid)
def O.fitD : X.N → Bool
 | .nil => true
 | .cons sp lo al ks tx ln cl r => O.fitE ⟨sp, lo, al, ks, tx, ln, cl⟩ && O.fitN ks && decide (ks.length ≤ 2000) && O.fitD r
section
variable {W w w' : World} {H X0 : Nat} {cs : List Value} {ps : List O.Pr} {al : Value} {pc : List Value}
theorem QL.past (h : QL W H cs X0 ps al pc w) (gs : w.grownBy w' (some X0)) : w'.ownsRow (X0 + 1) 106 4 al ps.length pc ∧ Prs w' (OwnG w' (X0 + 1) [tFlow, tItem, tBind]) ps pc := by
 have k2 : KeepG w w' [tFlow, tItem, tBind] := KeepG.grown gs h.x (by decide)
 exact ⟨h.ao.kept gs (Or.inr (fun e => by have := (World.ownsRow.lt h.ao X0 e).1; omega)), Prs.keep (fun _ hb => (hb.keep k2).1) (fun _ hb => (hb.keep k2).2) ps pc h.ai⟩
theorem QL.told (h : QL W H cs X0 ps al pc w) (gs : w.grownBy w' (some X0)) {w'' : World} (hb : Below w'.heap.size w' w'') : PrsIn w'' (OwnG w'' (X0 + 1) [tFlow, tItem, tBind, tProc]) ps al := by
 obtain ⟨h1, h2⟩ := h.past gs
 exact prs_own (h1.kept (grow_of_below hb) (Classical.em _)) (Prs.keep (fun _ hb' => (hb'.keep (KeepG.below hb _)).1) (fun _ hb' => (hb'.keep (KeepG.below hb _)).2) ps pc h2)
end
theorem Fr.grownY {w w' : World} {Y : Nat} {ev' fv' : Value} (h : Fr w w' Y (.slice none 0 0) (.slice none 0 0) ev' fv') : w.grownBy w' (some Y) :=
 ⟨h.os, h.tape, h.output, h.size, fun b hb hne => h.block b hb (fun e => hne (by rw [e])) (fun e => by cases (show some b = none from e)) (fun e => by cases (show some b = none from e))⟩
theorem md_done {W w : World} {H B : Nat} {cs : List Value} {RES : Except O.Er O.M} {m : O.M} {vv ev fv : Value} (h : NB W H cs 5 30 w) (hx : RES = .ok m) (hv : VasIn w (fun b => H + 2 ≤ b ∧ b < w.heap.size) m.vars vv) (eo : w.ownsRow B 36 11 ev m.els.length (elsC m.els)) (fo : w.ownsRow B 53 4 fv m.fls.length (flsC m.fls)) (hB : H + 2 ≤ B) :
  MdOf W RES (.returned (.tuple #[.agg #[.string (X.ba m.id), .string (X.ba m.nm), vv, ev, fv], .pointer none])) (sts w (H + 1) 0 [.string (X.ba m.id), .string (X.ba m.nm), vv, ev, fv]) := by
 have gs := sts_grown [.string (X.ba m.id), .string (X.ba m.nm), vv, ev, fv] w (H + 1) 0
 have hne : ∀ {v : Value} {e : TypeId} {size n : Nat} {xs : List Value}, w.ownsRow B e size v n xs → v.ownBlock = none ∨ v.ownBlock ≠ some (H + 1) := fun ho => Or.inr (fun e => by have := (World.ownsRow.lt ho (H + 1) e).1; omega)
 refine Or.inl ⟨m, vv, ev, fv, hx, rfl, hv.keep (fun b hb => ⟨by rw [h.h]; omega, Nat.lt_of_lt_of_le hb.2 gs.size⟩) (fun b hb => gs.block b hb.2 (fun e => by have := Option.some.inj e; omega)), (eo.kept gs (hne eo)).mono (by rw [h.h]; omega), (fo.kept gs (hne fo)).mono (by rw [h.h]; omega), by rw [h.h]; exact h.setB _⟩
theorem build_ok {P : Nat → Prop} {W : World} {n : X.E} {cs : List Value} (ok : KidOk W P n cs) (hks : O.fitD n.ks = true) (hkl : n.ks.length ≤ 9999) (q1 : (n.sp.toList == [104, 116, 116, 112, 58, 47, 47, 119, 119, 119, 46, 111, 109, 103, 46, 111, 114, 103, 47, 115, 112, 101, 99, 47, 66, 80, 77, 78, 47, 50, 48, 49, 48, 48, 53, 50, 52, 47, 77, 79, 68, 69, 76]) = true) (q2 : (n.lo.toList == [100, 101, 102, 105, 110, 105, 116, 105, 111, 110, 115]) = true) (hp : plainE n = none) {g0 : O.Got} (hrd : O.read [([116, 97, 114, 103, 101, 116, 78, 97, 109, 101, 115, 112, 97, 99, 101], ⟨false, false, []⟩), ([110, 97, 109, 101], ⟨false, false, []⟩), ([105, 100], ⟨false, false, []⟩)] (X.E.as n) = .ok g0) {RES : Except O.Er O.M} (HE : ∀ e, O.procs n.ks [] = .error e → RES = .error e) (HT : (O.procs n.ks [] = .ok [] → RES = .error (121, n.ln, n.cl)) ∧ (∀ p r, O.procs n.ks [] = .ok (p :: r) → ∃ q, O.put (p :: r) 100 p.items [] [] [p.id] [] [] = some q ∧ (∀ x ∈ p :: r, x.items.all O.fitI = true ∧ x.items.length ≤ 2000) ∧ RES = match q with | .error e => .error e | .ok (es, fs) => .ok ⟨p.id, p.nm, p.vars, es, fs⟩)) :
   Calls Tryz.prog 29 #[.agg cs.toArray] W (MdOf W RES) := by
 have OK := hid ok
 have HXE := hid HE
 have HRD := hid hrd
 have HKS := hid hks
 have HKL := hid hkl
 clear HE hrd hks hkl
 obtain ⟨av, kv, rfl, hA, hK⟩ := ok.has
 obtain ⟨ka, kc, rfl⟩ := hK.shape
 obtain ⟨L, hL⟩ : ∃ L, n.ks.length = L := ⟨_, rfl⟩
 rw [hL] at OK hK ⊢
 obtain ⟨H, hH⟩ : ∃ H, W.heap.size = H := ⟨_, rfl⟩
 obtain ⟨w1, hw1⟩ : ∃ w1, (W.alloc (.cells #[.string n.sp, .string n.lo, av, .slice ka L kc, .string n.tx, .int .i64 n.ln, .int .i64 n.cl] 44)).alloc (.cells #[.string ⟨#[]⟩, .string ⟨#[]⟩, .slice none 0 0, .slice none 0 0, .slice none 0 0] 30) = w1 := ⟨_, rfl⟩
 have HN1 : Hid (NB W H [.string n.sp, .string n.lo, av, .slice ka L kc, .string n.tx, .int .i64 n.ln, .int .i64 n.cl] 5 30 w1) := by
   show NB _ _ _ _ _ _
   rw [← hw1, ← hH]
   exact nb_first W _ zero5m _
 have HB1 : Hid (Below W.heap.size W w1) := by
   have := HN1.out.b
   rw [← hH] at this
   exact this
 obtain ⟨a0, a1, a2, a3, a4, a5, a6⟩ := row7 HN1.out.n
 have HW1 := hid hw1
 have HH := hid hH
 have cP := plain_any (hasB OK.out.has OK.out.p HB1.out) OK.out.t
 have HLL := hid hL
 have HKI := hid hK
 clear hA hK ok hw1 hH hL
 go_enter Tryz.func29, Tryz.ntmps29
 go_upto_region 1 with fail
 rw [HW1.out, HH.out]
 clear HW1
 rw [hp] at cP
 clear hp
 go_wp2_with fail
 refine cP.mono ?_
 rintro en w3 (⟨-, rfl, hb⟩ | ⟨e', f, h, -, -⟩)
 rotate_left
 · cases h
 have HN3 := hid (HN1.out.below hb)
 have HB3 := hid (HB1.out.trans (hb.mono HB1.out.size))
 clear hb cP a0 a1 a2 a3 a4 a5 a6
 obtain ⟨b0, b1, b2, b3, b4, b5, b6⟩ := row7 HN3.out.n
 have hmm := @run_makeMap Tryz.prog
 have m0 : RM (w3.alloc (.map #[] 0)) w3.heap.size 0 [] := World.ownsMap_made (H := Unit) w3 Tryz.prog 9 ruleR
 obtain ⟨mw1, mr1, m1, mt1⟩ := RM.put m0 (by unfold maxLen; omega) ⟨#[105, 100]⟩ (by decide) ⟨false, false, []⟩
 have mu1 : (Instr.mapUpdate 99 (.map (some w3.heap.size)) (.string ⟨#[105, 100]⟩) (.agg #[.bool false, .bool false, .string ⟨#[]⟩])).run Tryz.prog (w3.alloc (.map #[] 0)) = .ok () mw1 := mr1
 obtain ⟨mw2, mr2, m2, mt2⟩ := RM.put m1 (by unfold maxLen; omega) ⟨#[110, 97, 109, 101]⟩ (by decide) ⟨false, false, []⟩
 have mu2 : (Instr.mapUpdate 99 (.map (some w3.heap.size)) (.string ⟨#[110, 97, 109, 101]⟩) (.agg #[.bool false, .bool false, .string ⟨#[]⟩])).run Tryz.prog mw1 = .ok () mw2 := mr2
 obtain ⟨mw3, mr3, m3, mt3⟩ := RM.put m2 (by unfold maxLen; omega) ⟨#[116, 97, 114, 103, 101, 116, 78, 97, 109, 101, 115, 112, 97, 99, 101]⟩ (by decide) ⟨false, false, []⟩
 have mu3 : (Instr.mapUpdate 99 (.map (some w3.heap.size)) (.string ⟨#[116, 97, 114, 103, 101, 116, 78, 97, 109, 101, 115, 112, 97, 99, 101]⟩) (.agg #[.bool false, .bool false, .string ⟨#[]⟩])).run Tryz.prog mw2 = .ok () mw3 := mr3
 have mb : Below w3.heap.size w3 mw3 := by
   have b0 : Below w3.heap.size w3 (w3.alloc (.map #[] 0)) := (Below.refl _ w3).alloc (Nat.le_refl _) _
   have g := ((mt1.grown.trans mt2.grown).trans mt3.grown)
   exact b0.grown g b0.size (fun q hq => by simp at hq; omega)
 clear mr1 mr2 mr3 mt1 mt2 mt3 m0 m1 m2
 have HN4 := hid (HN3.out.below mb)
 have HB4 := hid (HB3.out.trans (mb.mono HB3.out.size))
 have HM : Hid (RM mw3 w3.heap.size 3 [([116, 97, 114, 103, 101, 116, 78, 97, 109, 101, 115, 112, 97, 99, 101], ⟨false, false, []⟩), ([110, 97, 109, 101], ⟨false, false, []⟩), ([105, 100], ⟨false, false, []⟩)]) := m3
 obtain ⟨M, hM⟩ : ∃ M, w3.heap.size = M := ⟨_, rfl⟩
 rw [hM] at HM
 have c2 := read_any (hasB OK.out.has OK.out.p HB4.out) (fun b hb => Nat.lt_of_lt_of_le (OK.out.p b hb) HB4.out.size) HM.out (OK.out.e.below HB4.out) OK.out.l OK.out.s (by decide)
 have HME := hid hM
 have HS4 := hid HN4.out.sz
 clear mb m3 hM
 obtain ⟨c0, c1, c3, c4, c5, c6, c7⟩ := row7 HN4.out.n
 go_wp2_with fail
 rw [HME.out]
 refine c2.mono ?_
 clear c0 c1 c3 c4 c5 c6 c7 mu1 mu2 mu3
 intro en w5 hrd
 obtain ⟨A, hA⟩ : ∃ A, w5.heap.size = A := ⟨_, rfl⟩
 rcases hrd with ⟨g, Mv, Mn, hx, rfl, hv1, hn1, hKM, hKN, hb⟩ | ⟨er', ma, mc, f, hx, rfl, hf, hr, hb⟩
 rotate_left
 · rw [HRD.out] at hx; cases hx
 obtain ⟨w6, hw6⟩ : ∃ w6, w5.alloc (.cells #[.map (some Mv), .map (some Mn)] 94) = w6 := ⟨_, rfl⟩
 have hb6 : Below w5.heap.size w5 w6 := by rw [← hw6]; exact (Below.refl _ w5).alloc (Nat.le_refl _) _
 have HN6 := hid ((HN4.out.below hb).below hb6)
 obtain ⟨X0, hX0⟩ : ∃ X, w6.heap.size = X := ⟨_, rfl⟩
 obtain ⟨w7, hw7⟩ : ∃ w7, w6.alloc (.cells #[.string ⟨#[]⟩, .string ⟨#[]⟩, .slice none 0 0, .slice none 0 0, .slice none 0 0, .slice none 0 0] 103) = w7 := ⟨_, rfl⟩
 have hb7 : Below w6.heap.size w6 w7 := by rw [← hw7]; exact (Below.refl _ w6).alloc (Nat.le_refl _) _
 have HP7 : Hid (QL W H [.string n.sp, .string n.lo, av, .slice ka L kc, .string n.tx, .int .i64 n.ln, .int .i64 n.cl] X0 [] (.slice none 0 0) [] w7) := by
   refine ⟨HN6.out.below hb7, by rw [← hX0]; exact HN6.out.sz, by rw [← hw7, ← hX0]; exact heap_alloc_new w6 _, World.ownsRow_nil _ _ _ _, rfl⟩
 have HW6 := hid hw6
 have HAE := hid hA
 have HX0E := hid hX0
 have HW7 := hid hw7
 clear hx hv1 hn1 hKM hKN hb hb6 hw6 hA hX0 hw7 hb7 c2 b0 b1 b2 b3 b4 b5 b6
 go_upto_region 7 with fail
 rw [HW6.out, HAE.out]
 clear HW6 HAE
 go_upto_region 10 with fail
 rw [HX0E.out, HW7.out]
 clear HW7 HX0E
 obtain ⟨gk, ok, hka, hat⟩ : ∃ gk ok, (ka = some ⟨gk, ok, none⟩ ∨ n.ks = .nil) ∧ n.ks.At W P gk ok := by
   rcases HKI.out with ⟨h0, _⟩ | ⟨gk, ok, c, he, _, _, h4⟩
   · exact ⟨0, 0, Or.inr h0, by rw [h0]; trivial⟩
   · simp only [Value.slice.injEq] at he
     exact ⟨gk, ok, Or.inl he.1, h4⟩
 have HKA := hid hka
 have HAT := hid hat
 clear hka hat
 clear HB1 HB3 HB4 HN1 HN3 HN4 HN6 HM HME
 obtain ⟨-, -, -, b3, -, -, -⟩ := row7 HP7.out.nb.n
 go_wp2_with fail
 clear b3
 go_loopw [52] (fun vi wr => ∃ (i : Nat) (r : X.N) (ps : List O.Pr) (aad : Option Addr) (acp : Nat) (pc : List Value), vi = .int .i64 i ∧ Hid (i + r.length = L ∧ O.procs n.ks [] = O.procs r ps ∧ O.fitD r = true ∧ ps.length ≤ i) ∧ Hid ((ka = some ⟨gk, ok, none⟩ ∨ r = .nil) ∧ r.At W P gk (ok + i * 7)) ∧ Hid (QL W H [.string n.sp, .string n.lo, av, .slice ka L kc, .string n.tx, .int .i64 n.ln, .int .i64 n.cl] X0 ps (.slice aad ps.length acp) pc wr)) (fun vi _ => L - (intOf vi).toNat)
 case atStart => exact ⟨0, n.ks, [], none, 0, [], rfl, hid ⟨by rw [HLL.out]; omega, rfl, HKS.out, Nat.le_refl _⟩, hid ⟨HKA.out, by simpa using HAT.out⟩, HP7⟩
 case round =>
   obtain ⟨i, r, ps, aad, acp, pc, rfl, HI, HR, HP⟩ := hrel
   clear HP7
   cases r with
   | nil =>
     have hiL : i = L := by have := HI.out.1; simpa [X.N.length] using this
     have t0 : decide ((i : Int) < (L : Int)) = false := decide_eq_false (by omega)
     have t1' : decide (i < L) = false := decide_eq_false (by omega)
     obtain ⟨x0, x1, x2, x3, x4, x5⟩ := rowN6 HP.out.x
     cases ps with
     | nil =>
       have HX : Hid (RES = .error (121, n.ln, n.cl)) := HT.1 HI.out.2.1
       clear hiL
       rw [show ([] : List O.Pr).length = 0 from rfl] at x5
       obtain ⟨rs, hrk, hrow⟩ := HP.out.nb.r
       obtain ⟨x0, x1, x2, x3, x4, rfl⟩ := len5 hrk
       obtain ⟨y0, y1, y2, y3, y4, yf0, yf1, yf2, yf3, yf4⟩ := rowN5 hrow
       obtain ⟨-, -, -, -, -, b5, b6⟩ := row7 HP.out.nb.n
       have z1 : H + 1 < wr.heap.size := by have := HP.out.nb.sz; omega
       have z0 : H < wr.heap.size := by omega
       clear hrk hrow
       go_upto_region 19 with fail
       go_region
       clear y0 yf0 y1 yf1 y2 yf2 y3 yf3 y4 yf4 z0 z1 b5 b6 x0 x1 x2 x3 x4 x5
       go_wp2_with fail
       exact bodyPost_ret (v := .tuple #[.agg zero5m.toArray, .pointer (some ⟨wr.heap.size, 0, none⟩)]) (results_pair rfl _ _ (H + 1) 30 _ (0, 0) _ (.pointer (some ⟨wr.heap.size, 0, none⟩)) rfl (HP.out.nb.faultR zero5m rfl _) rfl Tryz.underlying30 rfl sizeModel) rfl (Or.inr ⟨_, HX.out, HP.out.nb.fault zero5m _ _ _⟩)
     | cons p rest =>
       obtain ⟨q, hq0, hft, hRq⟩ := HT.2 p rest HI.out.2.1
       have HQ0 := hid hq0
       have HFT := hid hft
       have HRQ := hid hRq
       clear hq0 hft hRq
       obtain ⟨ds, hds, hat⟩ := Prs.at (p :: rest) pc 0 p HP.out.ai rfl
       have HDS := hid hds
       obtain ⟨vv, iv, rfl, hvv, hiv⟩ := hds
       obtain ⟨vad, vcp, rfl⟩ := hvv.shape
       obtain ⟨iad, icp, rfl⟩ := hiv.shape
       obtain ⟨ag, rfl⟩ : ∃ g, aad = some ⟨g, 0, none⟩ := by
         rcases HP.out.ao.2 with ⟨_, h0⟩ | ⟨g, cap, cur, h, _⟩
         · simp at h0
         · simp only [Value.slice.injEq] at h; exact ⟨g, h.1⟩
       have cc := fun j u (hu : [Value.string (X.ba p.id), .string (X.ba p.nm), .slice vad p.vars.length vcp, .slice iad p.items.length icp][j]? = some u) => World.ownsRow.cells HP.out.ao rfl (0 * 4 + j) u (hat j u hu)
       have ea : ∀ j, (⟨ag, 0, none⟩ : Addr).add j = ⟨ag, j, none⟩ := fun j => by unfold Addr.add; split <;> simp_all
       have f0 := (congrArg wr.cell? (ea _)).symm.trans (cc 0 _ rfl)
       have f1 := (congrArg wr.cell? (ea _)).symm.trans (cc 1 _ rfl)
       have f2 := (congrArg wr.cell? (ea _)).symm.trans (cc 2 _ rfl)
       have f3 := (congrArg wr.cell? (ea _)).symm.trans (cc 3 _ rfl)
       simp only [Nat.zero_mul, Nat.zero_add] at f0 f1 f2 f3
       obtain ⟨vl, hvl⟩ : ∃ v, p.vars.length = v := ⟨_, rfl⟩
       rw [hvl] at f2 HDS
       obtain ⟨il, hil⟩ : ∃ v, p.items.length = v := ⟨_, rfl⟩
       rw [hil] at f3 HDS
       obtain ⟨pn, hpn⟩ : ∃ k, (p :: rest).length = k := ⟨_, rfl⟩
       have hpos : (0 : Int) < (pn : Int) := by rw [← hpn]; simp
       rw [hpn] at x5
       have u0 : decide ((pn : Int) = 0) = false := decide_eq_false (by omega)
       have u1 : ((pn : Int) == 0) = false := beq_eq_false_iff_ne.2 (by omega)
       have HPN := hid hpn
       have HVL := hid hvl
       have HIL := hid hil
       obtain ⟨C, hC⟩ : ∃ K, wr.heap.size = K := ⟨_, rfl⟩
       obtain ⟨w20, hw20⟩ : ∃ w, wr.alloc (.cells #[.string (X.ba p.id), .string (X.ba p.nm), .slice vad vl vcp, .slice iad il icp] 106) = w := ⟨_, rfl⟩
       have HB20 : Hid (Below wr.heap.size wr w20) := by show Below _ _ _; rw [← hw20]; exact (Below.refl _ wr).alloc (Nat.le_refl _) _
       have HC20 : Hid (w20.heap[C]? = some (.cells #[.string (X.ba p.id), .string (X.ba p.nm), .slice vad vl vcp, .slice iad il icp] 106 (0, 0))) := by show _ = _; rw [← hw20, ← hC]; exact heap_alloc_new _ _
       have HP20 := hid (HP.out.below HB20.out)
       have HW20 := hid hw20
       have HCE := hid hC
       have HCC := hid hC
       clear cc ea hat hvv hiv hvl hil hpn hC hw20 hiL
       go_upto_region 21 with fail
       rw [HW20.out, HCE.out]
       clear HW20 HCE f0 f1 f2 f3 x0 x1 x2 x3 x4 x5
       obtain ⟨x0, x1, x2, x3, x4, x5⟩ := rowN6 HP20.out.x
       obtain ⟨z0, z1, z2, z3⟩ := row4 HC20.out
       have yf0 := Lib.frozen_of_heap HP20.out.x 0
       have yf1 := Lib.frozen_of_heap HP20.out.x 1
       have yf2 := Lib.frozen_of_heap HP20.out.x 2
       have yf3 := Lib.frozen_of_heap HP20.out.x 3
       have yf4 := Lib.frozen_of_heap HP20.out.x 4
       go_upto_region 22 with fail
       obtain ⟨w21, hw21⟩ : ∃ w, ((((w20.setCell ⟨X0, 0, none⟩ (.string (X.ba p.id))).setCell ⟨X0, 1, none⟩ (.string (X.ba p.nm))).setCell ⟨X0, 2, none⟩ (.slice vad vl vcp)).setCell ⟨X0, 3, none⟩ (.slice none 0 0)).setCell ⟨X0, 4, none⟩ (.slice none 0 0) = w := ⟨_, rfl⟩
       have hs21 : sts w20 X0 0 [.string (X.ba p.id), .string (X.ba p.nm), .slice vad vl vcp, .slice none 0 0, .slice none 0 0] = w21 := hw21
       have HG21 : Hid (w20.grownBy w21 (some X0)) := by show World.grownBy _ _ _; rw [← hs21]; exact sts_grown _ w20 X0 0
       have HM21 : Hid (w21.heap[X0]? = some (.cells #[.string (X.ba p.id), .string (X.ba p.nm), .slice vad vl vcp, .slice none 0 0, .slice none 0 0, .slice (some ⟨ag, 0, none⟩) pn acp] 103 (0, 0))) := by
         show _ = _
         rw [← hw21]
         have h := HP20.out.x
         rw [HPN.out] at h
         exact row_set (row_set (row_set (row_set (row_set h 0 _) 1 _) 2 _) 3 _) 4 _
       have HC21 : Hid (w21.heap[C]? = some (.cells #[.string (X.ba p.id), .string (X.ba p.nm), .slice vad vl vcp, .slice iad il icp] 106 (0, 0))) := by
         refine (HG21.out.block C (Go.lt_of_block HC20.out) (fun e => ?_)).trans HC20.out
         have h1 := Option.some.inj e
         have h2 := HP.out.sz
         have h3 := HCC.out
         omega
       rw [hw21]
       have HW21 := hid hw21
       clear hs21 hw21 x0 x1 x2 x3 x4 x5 z0 z1 z2 z3 yf0 yf1 yf2 yf3 yf4
       obtain ⟨z0, z1, z2, z3⟩ := row4 HC21.out
       go_wp2_with fail
       obtain ⟨w22, hw22⟩ : ∃ w, w21.alloc (.cells #[.string (X.ba p.id)] 9) = w := ⟨_, rfl⟩
       have HB22 : Hid (Below w21.heap.size w21 w22) := by show Below _ _ _; rw [← hw22]; exact (Below.refl _ w21).alloc (Nat.le_refl _) _
       have HS22 : Hid (w22.heap[w21.heap.size]? = some (.cells #[.string (X.ba p.id)] 9 (0, 0))) := by show _ = _; rw [← hw22]; exact heap_alloc_new _ _
       have HM22 := hid ((HB22.out.block X0 (Go.lt_of_block HM21.out)).trans HM21.out)
       have HT22 := hid (HP20.out.told HG21.out HB22.out)
       have HPM : Hid (PM X0 w22.heap.size (.string (X.ba p.id)) (.string (X.ba p.nm)) (.slice vad vl vcp) (.slice (some ⟨ag, 0, none⟩) pn acp) [] [] (.slice none 0 0) (.slice none 0 0) w22) :=
         ⟨Go.lt_of_block HM22.out, Nat.le_refl _, HM22.out, World.ownsRow_nil _ _ _ _, World.ownsRow_nil _ _ _ _⟩
       have hSN : SIn w22 [p.id] (.slice (some ⟨w21.heap.size, 0, none⟩) 1 1) := by
         refine Or.inr ⟨_, 1, rfl, ⟨_, HS22.out⟩, Nat.le_refl _, fun j u hu => ?_⟩
         rcases j with _ | j
         · obtain rfl := Option.some.inj hu
           exact rowCell HS22.out 0
         · cases j <;> cases hu
       have cQ := put_any (P := OwnG w22 (X0 + 1) [tFlow, tItem, tBind, tProc]) (all := p :: rest) (by have := HI.out.2.2.2; have h2 := HKL.out; have h3 := HLL.out; have h4 := HI.out.1; omega) HFT.out 100 p.items [] [] [p.id] [] [] q (.slice iad il icp) _ w22 X0 w22.heap.size _ _ _ _ _ _ HQ0.out ⟨HPM.out, by have h := HT22.out; rw [HPN.out] at h; exact h, fun b hb => ⟨hb.2.1, fun e => by have := hb.1; omega⟩, hSN, by simp, by simp⟩
       have hI22 : ItsIn w22 (OwnG w22 (X0 + 1) [tFlow, tItem, tBind, tProc]) p.items (.slice iad il icp) := by
         obtain ⟨vv, iv, hcs, -, hi⟩ := HDS.out
         have k := ((KeepG.below HB20.out [tFlow, tItem, tBind]).trans (KeepG.grown HG21.out HP20.out.x (by decide))).trans (KeepG.below HB22.out _)
         simp only [List.cons.injEq, and_true] at hcs
         obtain ⟨-, -, -, rfl⟩ := hcs
         exact hi.keep (fun b hb => (hb.keep k).1.sub (by decide) (Nat.le_refl _)) (fun b hb => (hb.keep k).2)
       have cQ2 := cQ hI22 (HFT.out p (by simp)).1 (HFT.out p (by simp)).2 (by simp) (by simp)
       clear cQ hI22 hSN z0 z1 z2 z3
       rw [hw22]
       have hV22 : VasIn w22 (OwnG w22 (X0 + 1) [tFlow, tItem, tBind]) p.vars (.slice vad vl vcp) := by
         obtain ⟨vv, iv, hcs, hv, -⟩ := HDS.out
         have k := ((KeepG.below HB20.out [tFlow, tItem, tBind]).trans (KeepG.grown HG21.out HP20.out.x (by decide))).trans (KeepG.below HB22.out _)
         simp only [List.cons.injEq, and_true] at hcs
         obtain ⟨-, -, rfl, -⟩ := hcs
         exact hv.keep (fun b hb => (hb.keep k).1) (fun b hb => (hb.keep k).2)
       have HV22 := hid hV22
       have HN22 := hid ((HP20.out.nb.grown HG21.out HP20.out.hx).below HB22.out)
       have HX0 := hid HP20.out.hx
       refine cQ2.mono ?_
       clear hV22 cQ2 HDS HQ0 HT22 HM22 HS22 HB22 HM21 HG21 HC21 HB20 HC20 HP20 HPM HW21
       rintro en w23 (⟨es, fs, ev', fv', hr, rfl, hpm, hfr, -, -⟩ | ⟨e, g, ev', fv', hr, rfl, hg, hrow, hfr⟩)
       · obtain ⟨ead, ecp, rfl⟩ : ∃ a c, ev' = .slice a es.length c := own_form hpm.eo
         obtain ⟨fad, fcp, rfl⟩ : ∃ a c, fv' = .slice a fs.length c := own_form hpm.fo
         have HX : Hid (RES = .ok ⟨p.id, p.nm, p.vars, es, fs⟩) := by show _ = _; rw [HRQ.out, hr]
         have gs := Fr.grownY hfr
         have HN23 := hid (HN22.out.grown gs HX0.out)
         have HV23 : Hid (VasIn w23 (fun b => H + 2 ≤ b ∧ b < w23.heap.size) p.vars (.slice vad vl vcp)) := HV22.out.keep (fun b hb => ⟨by have := hb.1; have := HX0.out; omega, Nat.lt_of_lt_of_le hb.2.1 gs.size⟩) (fun b hb => gs.block b hb.2.1 (fun e => by have := Option.some.inj e; have := hb.1; omega))
         have HEO := hid hpm.eo
         have HFO := hid hpm.fo
         have HBB : Hid (H + 2 ≤ w22.heap.size) := HN22.out.sz
         obtain ⟨x0, x1, x2, x3, x4, x5⟩ := rowN6 hpm.x
         obtain ⟨rs, hrk, hrow⟩ := HN23.out.r
         obtain ⟨r0, r1, r2, r3, r4, rfl⟩ := len5 hrk
         obtain ⟨y0, y1, y2, y3, y4, yf0, yf1, yf2, yf3, yf4⟩ := rowN5 hrow
         obtain ⟨el, hel⟩ : ∃ v, es.length = v := ⟨_, rfl⟩
         obtain ⟨fl, hfl⟩ : ∃ v, fs.length = v := ⟨_, rfl⟩
         rw [hel] at x3 HEO
         rw [hfl] at x4 HFO
         have HEL := hid hel
         have HFL := hid hfl
         clear hr hpm hfr gs hrk hrow hel hfl
         go_wp2_with fail
         exact bodyPost_ret (v := .tuple #[.agg #[.string (X.ba p.id), .string (X.ba p.nm), .slice vad vl vcp, .slice ead el ecp, .slice fad fl fcp], .pointer none]) (results_pair rfl _ _ (H + 1) 30 _ (0, 0) _ (.pointer none) rfl (HN23.out.set [.string (X.ba p.id), .string (X.ba p.nm), .slice vad vl vcp, .slice ead el ecp, .slice fad fl fcp] rfl) rfl Tryz.underlying30 rfl sizeModel) rfl (md_done HN23.out HX.out HV23.out (by rw [HEL.out]; exact HEO.out) (by rw [HFL.out]; exact HFO.out) HBB.out)
       · have HX : Hid (RES = .error e) := by show _ = _; rw [HRQ.out, hr]
         have gs := Fr.grownY hfr
         have HN23 := hid (HN22.out.grown gs HX0.out)
         have HR23 := hid hrow
         have HG : Hid (H + 2 ≤ g) := by have := HN22.out.sz; show _ ≤ _; omega
         clear hr hfr gs hg hrow
         obtain ⟨rs, hrk, hrow⟩ := HN23.out.r
         obtain ⟨r0, r1, r2, r3, r4, rfl⟩ := len5 hrk
         obtain ⟨y0, y1, y2, y3, y4, yf0, yf1, yf2, yf3, yf4⟩ := rowN5 hrow
         clear hrk hrow
         go_wp2_with fail
         exact bodyPost_ret (v := .tuple #[.agg zero5m.toArray, .pointer (some ⟨g, 0, none⟩)]) (results_pair rfl _ _ (H + 1) 30 _ (0, 0) _ (.pointer (some ⟨g, 0, none⟩)) rfl (HN23.out.set zero5m rfl) rfl Tryz.underlying30 rfl sizeModel) rfl (Or.inr ⟨e, HX.out, HN23.out.pass zero5m e HG.out HR23.out⟩)
   | cons sp lo al ks tx ln cl r =>
     have hfit := HI.out.2.2.1
     unfold O.fitD at hfit
     rw [Bool.and_eq_true, Bool.and_eq_true, Bool.and_eq_true] at hfit
     obtain ⟨⟨⟨hfe, hfn⟩, hkl2⟩, hfr⟩ := hfit
     have hlen : i + r.length + 1 = L := by have := HI.out.1; simp only [X.N.length] at this; omega
     have hlt : i < L := by omega
     have t0 : decide ((i : Int) < (L : Int)) = true := decide_eq_true (by omega)
     have t1' : decide (i < L) = true := decide_eq_true (by omega)
     obtain ⟨hp0, h0, h1, ⟨av', h2, hav⟩, ⟨kv', h3, hkv⟩, h4, h5, h6, hrest⟩ := HR.out.2
     obtain rfl : ka = some ⟨gk, ok, none⟩ := by
       rcases HR.out.1 with h | h
       · exact h
       · cases h
     have hkv' : X.N.In W P ks kv' := hkv
     obtain ⟨ava, avc, rfl⟩ := hav.shape
     obtain ⟨kva, kvc, rfl⟩ := hkv'.shape
     have hpl := OK.out.p gk hp0
     have hbw : Below W.heap.size W wr := by have := HP.out.nb.b; rw [← HH.out] at this; exact this
     have cc := fun (o : Nat) => hbw.cell (p := ⟨gk, o, none⟩) hpl
     have d0 := (cc _).trans h0
     have d1 := (cc _).trans h1
     have d2 := (cc _).trans h2
     have d3 := (cc _).trans h3
     have d4 := (cc _).trans h4
     have d5 := (cc _).trans h5
     have d6 := (cc _).trans h6
     obtain ⟨kn, hkn⟩ : ∃ k, ks.length = k := ⟨_, rfl⟩
     rw [hkn] at d3
     obtain ⟨an, han⟩ : ∃ k, al.length = k := ⟨_, rfl⟩
     rw [han] at d2
     obtain ⟨K, hK⟩ : ∃ K, wr.heap.size = K := ⟨_, rfl⟩
     obtain ⟨w9, hw9⟩ : ∃ w, wr.alloc (.cells #[.string sp, .string lo, .slice ava an avc, .slice kva kn kvc, .string tx, .int .i64 ln, .int .i64 cl] 44) = w := ⟨_, rfl⟩
     have hb9 : Below wr.heap.size wr w9 := by rw [← hw9]; exact (Below.refl _ wr).alloc (Nat.le_refl _) _
     have HK9 : Hid (w9.heap[K]? = some (.cells #[.string sp, .string lo, .slice ava an avc, .slice kva kn kvc, .string tx, .int .i64 ln, .int .i64 cl] 44 (0, 0))) := by show _ = _; rw [← hw9, ← hK]; exact heap_alloc_new _ _
     have HP9 := hid (HP.out.below hb9)
     have HB9 := hid (hbw.trans (hb9.mono hbw.size))
     have HHAS : Hid (X.E.Has W P (⟨sp, lo, al, ks, tx, ln, cl⟩ : X.E) [.string sp, .string lo, .slice ava an avc, .slice kva kn kvc, .string tx, .int .i64 ln, .int .i64 cl]) := ⟨_, _, by rw [← han, ← hkn], hav, hkv'⟩
     obtain ⟨f1, f2, f3, f4⟩ := fit_parts hfe
     have HPS : Hid (ps.length < 100000 ∧ ps.length ≤ i ∧ L ≤ 9999) := by
       have h8 := HI.out.2.2.2
       have h9 := HKL.out
       have h7 := HLL.out
       refine ⟨by omega, h8, by omega⟩
     have HC : Hid (∀ U, Below w9.heap.size w9 U → Calls Tryz.prog 43 #[.agg #[.string sp, .string lo, .slice ava an avc, .slice kva kn kvc, .string tx, .int .i64 ln, .int .i64 cl], .slice aad ps.length acp] U (PrOf U (O.proc (⟨sp, lo, al, ks, tx, ln, cl⟩ : X.E) ps))) := by
       intro U hU
       have hB := HB9.out.trans (hU.mono HB9.out.size)
       have hQ := HP9.out.below hU
       exact proc_any (cs := [.string sp, .string lo, .slice ava an avc, .slice kva kn kvc, .string tx, .int .i64 ln, .int .i64 cl]) ⟨hasB HHAS.out OK.out.p hB, fun b hb => Nat.lt_of_lt_of_le (OK.out.p b hb) hB.size, OK.out.e.below hB, f1, f2, f3⟩ hfn (of_decide_eq_true hkl2) (prs_own hQ.ao hQ.ai) (fun b hb => hb.2.1) (by have := HPS.out.1; omega)
     have HKE := hid hK
     have HW9 := hid hw9
     have HI2 : Hid (i + r.length + 1 = L ∧ O.fitD r = true) := ⟨hlen, hfr⟩
     have HRR : Hid (r.At W P gk (ok + (i + 1) * 7)) := by show X.N.At _ _ _ _ _; rw [show ok + (i + 1) * 7 = ok + i * 7 + 7 by omega]; exact hrest
     have HPC : Hid (O.procs n.ks [] = match O.proc (⟨sp, lo, al, ks, tx, ln, cl⟩ : X.E) ps with | .error e => .error e | .ok p => O.procs r (ps ++ [p])) := HI.out.2.1
     clear hfe hfr hfn hkl2 hlen hp0 h0 h1 h2 h3 h4 h5 h6 hrest hav hkv hkv' hpl hbw cc hb9 f1 f2 f3 f4 hK hw9 HI HR HP HHAS hkn han
     go_upto_region 13 with fail
     rw [HW9.out, HKE.out]
     clear HW9 HKE d0 d1 d2 d3 d4 d5 d6
     refine build_r13 HP9.out HK9.out HC.out ?_ ?_
     · intro p R vad iad vl vcp il icp w10 u56x u57x u58x u59x u60x u61x u62x u63x u64x hx hph hrow hb
       have HP10 := hid (HP9.out.below hb)
       have HPH : Hid (PrHas w10 (OwnG w10 (X0 + 1) [tFlow, tItem, tBind]) p [.string (X.ba p.id), .string (X.ba p.nm), .slice vad vl vcp, .slice iad il icp]) := PrHas.keep (w := w10) (fun b hb => hb.sub (fun _ h => h) HP9.out.sz) (fun _ _ => rfl) hph
       have HRW := hid hrow
       have HPC2 : Hid (O.procs n.ks [] = O.procs r (ps ++ [p])) := by show _ = _; rw [HPC.out, hx]
       clear hx hph hrow hb
       rename Act → World → Prop => KK
       rename ∀ (a : Act) (w : World), _ → KK a w => hKK
       refine hKK _ _ ?_
       clear hKK
       clear KK
       go_upto_region 16 with fail
       refine build_r16 HP10.out HRW.out HPH.out HPS.out.1 ?_
       intro g1 cap1 w11 u69y u70y u71y u72y u73y u74y u75y u76y u77y u78y hq
       have HQ11 := hid hq
       clear hq
       rename Act → World → Prop => KK2
       rename ∀ (a : Act) (w : World), _ → KK2 a w => hKK2
       refine (show KK2 _ _ from hKK2 _ _ ?_)
       obtain ⟨i1, hi1⟩ : ∃ i1, i + 1 = i1 := ⟨_, rfl⟩
       have e1 : IntKind.i64.wrap ((i : Int) + 1) = (i1 : Int) := by have := HPS.out; rw [IntKind.wrap_i64] <;> omega
       have HI3 : Hid (i1 + r.length = L ∧ O.procs n.ks [] = O.procs r (ps ++ [p]) ∧ O.fitD r = true ∧ (ps ++ [p]).length ≤ i1) := by
         have := HI2.out
         have h2 := HPS.out
         refine ⟨by omega, HPC2.out, this.2, ?_⟩
         rw [List.length_append, List.length_singleton]; omega
       have HR3 : Hid ((some (⟨gk, ok, none⟩ : Addr) = some ⟨gk, ok, none⟩ ∨ r = .nil) ∧ r.At W P gk (ok + i1 * 7)) := ⟨Or.inl rfl, by rw [← hi1]; exact HRR.out⟩
       have HM3 : Hid (L - i1 < L - i) := by have := HI2.out; show _ < _; omega
       clear hi1
       go_wp2_with fail
       go_roundw
       case rel => first | exact ⟨i1, r, ps ++ [p], some ⟨g1, 0, none⟩, cap1, _, rfl, HI3, HR3, by rw [List.length_append, List.length_singleton]; exact HQ11⟩ | ((repeat apply Exists.intro); exact ⟨⟨i1, r, ps ++ [p], some ⟨g1, 0, none⟩, cap1, _, rfl, HI3, hid ⟨Or.inl trivial, HR3.out.2⟩, by rw [List.length_append, List.length_singleton]; exact HQ11⟩, rfl⟩) | exact ⟨i1, r, ps ++ [p], some ⟨g1, 0, none⟩, cap1, _, rfl, HI3, hid ⟨Or.inl trivial, HR3.out.2⟩, by rw [List.length_append, List.length_singleton]; exact HQ11⟩
       case measure => simpa [intOf] using HM3.out
     · intro e f R w10 u56x u57x u58x u59x u60x u61x u62x u63x u64x hx hf hrow hb
       have HX : Hid (RES = .error e) := HXE.out e (by rw [HPC.out, hx])
       have HN10 := hid (HP9.out.below hb).nb
       have HR10 := hid hrow
       have HF : Hid (H + 2 ≤ f) := by have h1 := HP9.out.hx; have h2 := HP9.out.sz; show _ ≤ _; omega
       clear hx hf hrow hb
       rename Act → World → Prop => KK
       rename ∀ (a : Act) (w : World), _ → KK a w => hKK
       refine hKK _ _ ?_
       obtain ⟨rs, hrk, hrow⟩ := HN10.out.r
       obtain ⟨x0, x1, x2, x3, x4, rfl⟩ := len5 hrk
       obtain ⟨y0, y1, y2, y3, y4, yf0, yf1, yf2, yf3, yf4⟩ := rowN5 hrow
       clear hrk hrow
       go_wp2_with fail
       exact bodyPost_ret (v := .tuple #[.agg zero5m.toArray, .pointer (some ⟨f, 0, none⟩)]) (results_pair rfl _ _ (H + 1) 30 _ (0, 0) _ (.pointer (some ⟨f, 0, none⟩)) rfl (HN10.out.set zero5m rfl) rfl Tryz.underlying30 rfl sizeModel) rfl (Or.inr ⟨e, HX.out, HN10.out.pass zero5m e (HF.out) HR10.out⟩)
end Go.Proofs.YteejphiklpnjhaaGreatDoor
