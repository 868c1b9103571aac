/- Read; awake. -/
import Derived.Test.YteejphiklpnjhaaGreatDoorOBuildD
import Derived.Test.YteejphiklpnjhaaGreatDoorOA1
import Derived.Test.YteejphiklpnjhaaGreatDoorOEqM
import Derived.Laws.Concat
namespace Go.Proofs.YteejphiklpnjhaaGreatDoor
set_option maxRecDepth 100000
set_option maxHeartbeats 16000000
open Go.RowKit Go.Maps
open Go.Lib (hid)
def O.fitT (l : List UInt8) : Bool := match X.parse l with
 | .error (_, er) => decide (er ≠ 0)
 | .ok n => O.fitE n && O.fitD n.ks && decide (n.ks.length ≤ 9999) && O.fitP n
def RdOf (W0 : World) (x : Except Int O.M) (en : Ending) (W : World) : Prop :=
 (∃ m vv ev fv, x = .ok m ∧ en = .returned (.tuple #[.agg #[.string (X.ba m.id), .string (X.ba m.nm), vv, ev, fv], .agg #[.int .i64 0, .int .i64 0], .int .i64 0]) ∧ VasIn W (fun b => W0.heap.size ≤ b ∧ b < W.heap.size) m.vars vv ∧ W.ownsRow W0.heap.size 36 11 ev m.els.length (elsC m.els) ∧ W.ownsRow W0.heap.size 53 4 fv m.fls.length (flsC m.fls) ∧ Below W0.heap.size W0 W) ∨
 (∃ e p0 p1, x = .error e ∧ en = .returned (.tuple #[.agg #[.string ⟨#[]⟩, .string ⟨#[]⟩, .slice none 0 0, .slice none 0 0, .slice none 0 0], .agg #[.int .i64 p0, .int .i64 p1], .int .i64 e]) ∧ Below W0.heap.size W0 W)
theorem rd_done {W w : World} {H K : Nat} (h : RQ W H K w) {B : Nat} {RES : Except Int O.M} {m : O.M} {vv ev fv : Value} (hx : RES = .ok m) (hv : VasIn w (fun b => K + 2 ≤ b ∧ b < w.heap.size) m.vars vv) (eo : w.ownsRow B 36 11 ev m.els.length (elsC m.els)) (fo : w.ownsRow B 53 4 fv m.fls.length (flsC m.fls)) (hB : K + 2 ≤ B) :
  RdOf W RES (.returned (.tuple #[.agg #[.string (X.ba m.id), .string (X.ba m.nm), vv, ev, fv], .agg #[.int .i64 0, .int .i64 0], .int .i64 0])) (rb5 w K (.string (X.ba m.id)) (.string (X.ba m.nm)) vv ev fv (.int .i64 0) (.int .i64 0)) := by
 have hk := h.k
 refine Or.inl ⟨m, vv, ev, fv, hx, rfl, hv.keep (fun b hb => ⟨by rw [h.h]; omega, by rw [rb5_size]; exact hb.2⟩) (fun b hb => h.kept hb.1 hb.2), (h.owns eo hB).mono (by rw [h.h]; omega), (h.owns fo hB).mono (by rw [h.h]; omega), by rw [h.h]; exact h.setB⟩
theorem rd_fail {W w : World} {H K : Nat} (h : RQ W H K w) {RES : Except Int O.M} {e p0 p1 : Int} (hx : RES = .error e) :
  RdOf W RES (.returned (.tuple #[.agg #[.string ⟨#[]⟩, .string ⟨#[]⟩, .slice none 0 0, .slice none 0 0, .slice none 0 0], .agg #[.int .i64 p0, .int .i64 p1], .int .i64 e])) (rb5 w K (.string ⟨#[]⟩) (.string ⟨#[]⟩) (.slice none 0 0) (.slice none 0 0) (.slice none 0 0) (.int .i64 p0) (.int .i64 p1)) :=
 Or.inr ⟨e, p0, p1, hx, rfl, by rw [h.h]; exact h.setB⟩
theorem rd_failD {W w : World} {H K : Nat} (h : RQ W H K w) {RES : Except Int O.M} {e p0 p1 : Int} (hx : RES = .error e) :
  RdOf W RES (.returned (.tuple #[.agg #[.string ⟨#[]⟩, .string ⟨#[]⟩, .slice none 0 0, .slice none 0 0, .slice none 0 0], .agg #[.int .i64 p0, .int .i64 p1], .int .i64 e])) (rb5 w K (.string ⟨#[]⟩) (.string ⟨#[]⟩) (.slice none 0 0) (.slice none 0 0) (.slice none 0 0) (.int .i64 p0) (.int .i64 p1)).drew :=
 Or.inr ⟨e, p0, p1, hx, rfl, by rw [h.h]; exact h.setB.drew⟩
theorem model_read (s : ByteArray) (hs : s.size ≤ 65536) (hF : O.fitT s.data.toList = true) {RES : Except Int O.M} (hT : O.text s.data.toList = some RES) (W : World) (hE : EnvO W) :
   Calls Tryz.prog 7 #[.string s] W (RdOf W RES) := by
 obtain ⟨H, hH⟩ : ∃ H, W.heap.size = H := ⟨_, rfl⟩
 obtain ⟨w1, hw1⟩ : ∃ w, (W.alloc (.cells #[.string ⟨#[]⟩, .string ⟨#[]⟩, .slice none 0 0, .slice none 0 0, .slice none 0 0] 30)).alloc (.cells #[.int .i64 0, .int .i64 0] 32) = w := ⟨_, rfl⟩
 have HR1 : Hid (RQ W H H w1) := by
   show RQ _ _ _ _
   rw [← hw1]
   have := rb_first W H W hH (by rw [← hH]; exact Below.refl _ _) (by omega)
   rw [hH] at this
   exact this
 have HB1 : Hid (Below W.heap.size W w1) := by have := HR1.out.b; rw [← hH] at this; exact this
 have HE1 := hid (hE.below HB1.out)
 have cP := parse_any s hs w1 HE1.out.e HE1.out.t
 have HF := hid hF
 have HT := hid hT
 have HW1 := hid hw1
 have HH := hid hH
 clear hF hT hE hw1 hH
 go_enter Tryz.func7, Tryz.ntmps7
 go_upto_region 1 with fail
 rw [HW1.out, HH.out]
 clear HW1
 go_wp2_with fail
 refine cP.mono ?_
 clear cP
 rintro en w2 (⟨n, cs, hx, rfl, hh, hb⟩ | ⟨k, er, hx, rfl, hb⟩)
 · have HFT : Hid (O.fitE n = true ∧ O.fitD n.ks = true ∧ n.ks.length ≤ 9999 ∧ O.fitP n = true) := by
     have h := HF.out
     unfold O.fitT at h
     rw [hx] at h
     simp only [Bool.and_eq_true] at h
     exact ⟨h.1.1.1, h.1.1.2, of_decide_eq_true h.1.2, h.2⟩
   obtain ⟨RQ', hRB, hRE⟩ : ∃ r, O.build n = some r ∧ (match r with | .error e => RES = .error e.1 | .ok m => RES = .ok m) := by
     have h := HT.out
     unfold O.text at h
     rw [hx] at h
     simp only at h
     rcases hq : O.build n with _ | r
     · rw [hq] at h; cases h
     · rw [hq] at h
       refine ⟨r, rfl, ?_⟩
       cases r with
       | error e => exact (Option.some.inj h).symm
       | ok m => exact (Option.some.inj h).symm
   have HRE := hid hRE
   obtain ⟨av, kv, rfl, hA, hK⟩ := hh
   obtain ⟨ka, kc, rfl⟩ := hK.shape
   obtain ⟨ava, avc, rfl⟩ := hA.shape
   obtain ⟨L, hL⟩ : ∃ L, n.ks.length = L := ⟨_, rfl⟩
   obtain ⟨avl, hAL⟩ : ∃ L, (X.E.as n).length = L := ⟨_, rfl⟩
   have hHas : n.Has w2 (OwnN w2 w1.heap.size none) [.string n.sp, .string n.lo, .slice ava (X.E.as n).length avc, .slice ka n.ks.length kc, .string n.tx, .int .i64 n.ln, .int .i64 n.cl] := ⟨_, _, rfl, hA, hK⟩
   rw [hL, hAL] at hHas ⊢
   obtain ⟨D, hD⟩ : ∃ D, w2.heap.size = D := ⟨_, rfl⟩
   obtain ⟨w3, hw3⟩ : ∃ w, (w2.alloc (.cells #[.string n.sp, .string n.lo, .slice ava avl avc, .slice ka L kc, .string n.tx, .int .i64 n.ln, .int .i64 n.cl] 44)).alloc (.cells #[.int .i64 0, .int .i64 0] 32) = w := ⟨_, rfl⟩
   have hb3 : Below w2.heap.size w2 w3 := by rw [← hw3]; exact ((Below.refl _ w2).alloc (Nat.le_refl _) _).alloc (by simp) _
   have hd3 : w3.heap[D]? = some (.cells #[.string n.sp, .string n.lo, .slice ava avl avc, .slice ka L kc, .string n.tx, .int .i64 n.ln, .int .i64 n.cl] 44 (0, 0)) := by
     rw [← hw3, Go.Lib.alloc_old _ _ _ (by simp; omega), ← hD]
     exact heap_alloc_new w2 _
   have HB13 : Hid (Below w1.heap.size w1 w3) := hb.trans (hb3.mono hb.size)
   have HR3 := hid (HR1.out.below HB13.out)
   obtain ⟨f1, f2, f3, f4⟩ := fit_parts HFT.out.1
   have OK3 : KidOk w3 (OwnN w2 w1.heap.size none) n [.string n.sp, .string n.lo, .slice ava avl avc, .slice ka L kc, .string n.tx, .int .i64 n.ln, .int .i64 n.cl] := ⟨X.E.Has.keep (fun _ h => h) (fun b h => hb3.block b h.2.1) hHas, fun b h => Nat.lt_of_lt_of_le h.2.1 hb3.size, HE1.out.below HB13.out, f1, f2, f3⟩
   have cB := Build_any OK3 HFT.out.2.1 HFT.out.2.2.1 HFT.out.2.2.2 hRB
   have HS : Hid (H + 2 ≤ w3.heap.size) := HR3.out.sz
   obtain ⟨a0, a1, a2, a3, a4, a5, a6⟩ := row7 hd3
   have HW3 := hid hw3
   have HDE := hid hD
   clear hx hb hRB hRE hA hK hL hAL hHas hb3 hd3 f1 f2 f3 f4 OK3 hw3 hD HF HT HR1 HB1
   go_upto_region 2 with fail
   rw [HW3.out, HDE.out]
   clear HW3 HDE
   go_wp2_with fail
   refine cB.mono ?_
   clear cB a0 a1 a2 a3 a4 a5 a6
   rintro en w4 (⟨m, vv, ev, fv, hx, rfl, hv, heo, hfo, hb⟩ | ⟨e, p0, p1, hx, rfl, hb⟩)
   · obtain ⟨va, vl, vc, rfl⟩ : ∃ a l c, vv = .slice a l c := by obtain ⟨a, c, h⟩ := hv.shape; exact ⟨a, _, c, h⟩
     obtain ⟨ea, el, ec, rfl⟩ : ∃ a l c, ev = .slice a l c := by obtain ⟨a, c, h⟩ := own_form heo; exact ⟨a, _, c, h⟩
     obtain ⟨fa, fl, fc, rfl⟩ : ∃ a l c, fv = .slice a l c := by obtain ⟨a, c, h⟩ := own_form hfo; exact ⟨a, _, c, h⟩
     have HX : Hid (RES = .ok m) := by have h := HRE.out; rw [hx] at h; exact h
     have HR4 := hid (HR3.out.below hb)
     have HV4 : Hid (VasIn w4 (fun b => H + 2 ≤ b ∧ b < w4.heap.size) m.vars (.slice va vl vc)) := hv.keep (fun b hb => ⟨by have := HS.out; have := hb.1; omega, hb.2⟩) (fun b hb => rfl)
     have HE4 := hid heo
     have HF4 := hid hfo
     obtain ⟨r0, r1, r2, r3, r4, hr⟩ := HR4.out.r
     obtain ⟨q0, q1, hp⟩ := HR4.out.p
     obtain ⟨y0, y1, y2, y3, y4, yf0, yf1, yf2, yf3, yf4⟩ := rowN5 hr
     obtain ⟨z0, z1, zf0, zf1⟩ := rowN2 hp
     clear hx hv heo hfo hb hr hp
     go_wp2_with fail
     exact bodyPost_ret (v := .tuple #[.agg #[.string (X.ba m.id), .string (X.ba m.nm), .slice va vl vc, .slice ea el ec, .slice fa fl fc], .agg #[.int .i64 0, .int .i64 0], .int .i64 0]) (results_duo rfl _ _ H (H + 1) 30 32 _ _ (0, 0) (0, 0) _ _ (.int .i64 0) rfl (HR4.out.row (a := .int .i64 0) (b := .int .i64 0)) rfl HR4.out.rowP rfl Tryz.underlying30 rfl sizeModel Tryz.underlying32 rfl infoPos) rfl (rd_done HR4.out HX.out HV4.out HE4.out HF4.out HS.out)
   · have HX : Hid (RES = .error e.1) := by have h := HRE.out; rw [hx] at h; exact h
     have HR4 := hid (HR3.out.below hb)
     obtain ⟨e0, he0⟩ : ∃ k, e.1 = k := ⟨_, rfl⟩
     rw [he0] at HX ⊢
     obtain ⟨r0, r1, r2, r3, r4, hr⟩ := HR4.out.r
     obtain ⟨q0, q1, hp⟩ := HR4.out.p
     obtain ⟨y0, y1, y2, y3, y4, yf0, yf1, yf2, yf3, yf4⟩ := rowN5 hr
     obtain ⟨z0, z1, zf0, zf1⟩ := rowN2 hp
     clear hx hb hr hp he0
     go_wp2_with fail
     exact bodyPost_ret (v := .tuple #[.agg #[.string ⟨#[]⟩, .string ⟨#[]⟩, .slice none 0 0, .slice none 0 0, .slice none 0 0], .agg #[.int .i64 p0, .int .i64 p1], .int .i64 e0]) (results_duo rfl _ _ H (H + 1) 30 32 _ _ (0, 0) (0, 0) _ _ (.int .i64 e0) rfl (HR4.out.row (a := .int .i64 p0) (b := .int .i64 p1)) rfl HR4.out.rowP rfl Tryz.underlying30 rfl sizeModel Tryz.underlying32 rfl infoPos) rfl (rd_fail HR4.out HX.out)
 · have HX : Hid (RES = .error er) := by
     have h := HT.out
     unfold O.text at h
     rw [hx] at h
     exact (Option.some.inj h).symm
   have hne : er ≠ 0 := by
     have h := HF.out
     unfold O.fitT at h
     rw [hx] at h
     exact of_decide_eq_true h
   have t0 : (er != 0) = true := bne_iff_ne.2 hne
   obtain ⟨p0, p1, hpp⟩ : ∃ p0 p1 : Int, posV s (s.size - k) = .agg #[.int .i64 p0, .int .i64 p1] := ⟨_, _, rfl⟩
   rw [hpp, show zero7 = #[.string ⟨#[]⟩, .string ⟨#[]⟩, .slice none 0 0, .slice none 0 0, .string ⟨#[]⟩, .int .i64 0, .int .i64 0] from rfl]
   obtain ⟨D, hD⟩ : ∃ D, w2.heap.size = D := ⟨_, rfl⟩
   obtain ⟨w3, hw3⟩ : ∃ w, (w2.alloc (.cells #[.string ⟨#[]⟩, .string ⟨#[]⟩, .slice none 0 0, .slice none 0 0, .string ⟨#[]⟩, .int .i64 0, .int .i64 0] 44)).alloc (.cells #[.int .i64 p0, .int .i64 p1] 32) = w := ⟨_, rfl⟩
   have hb3 : Below w2.heap.size w2 w3 := by rw [← hw3]; exact ((Below.refl _ w2).alloc (Nat.le_refl _) _).alloc (by simp) _
   have hd3 : w3.heap[D + 1]? = some (.cells #[.int .i64 p0, .int .i64 p1] 32 (0, 0)) := by
     have := heap_alloc_new (w2.alloc (.cells #[.string ⟨#[]⟩, .string ⟨#[]⟩, .slice none 0 0, .slice none 0 0, .string ⟨#[]⟩, .int .i64 0, .int .i64 0] 44)) (.cells #[.int .i64 p0, .int .i64 p1] 32)
     rw [hw3] at this
     rw [← hD, ← this]
     simp
   have HB13 : Hid (Below w1.heap.size w1 w3) := hb.trans (hb3.mono hb.size)
   have HR3 := hid (HR1.out.below HB13.out)
   have d0 : w3.cell? ⟨D + 1, 0, none⟩ = some (.int .i64 p0) := rowCell hd3 0
   have d1 : w3.cell? ⟨D + 1, 1, none⟩ = some (.int .i64 p1) := rowCell hd3 1
   obtain ⟨r0, r1, r2, r3, r4, hr⟩ := HR3.out.r
   obtain ⟨q0, q1, hp⟩ := HR3.out.p
   obtain ⟨y0, y1, y2, y3, y4, yf0, yf1, yf2, yf3, yf4⟩ := rowN5 hr
   obtain ⟨z0, z1, zf0, zf1⟩ := rowN2 hp
   have n1 : ¬ D + 1 = H := by have := HR1.out.sz; have := hb.size; omega
   have n2 : ¬ D = H := by have := HR1.out.sz; have := hb.size; omega
   have HW3 := hid hw3
   have HDE := hid hD
   clear hx hb hb3 hd3 hr hp hw3 hD hne hpp HF HT HR1 HB1
   go_upto_region 2 with fail
   rw [HW3.out, HDE.out]
   clear HW3 HDE
   go_upto_region 3 with fail
   go_region
   clear d0 d1 y0 y1 y2 y3 y4 yf0 yf1 yf2 yf3 yf4 z0 z1 zf0 zf1 n1 n2
   go_wp2_with fail
   exact bodyPost_ret (v := .tuple #[.agg #[.string ⟨#[]⟩, .string ⟨#[]⟩, .slice none 0 0, .slice none 0 0, .slice none 0 0], .agg #[.int .i64 p0, .int .i64 p1], .int .i64 er]) (results_duo rfl _ _ H (H + 1) 30 32 _ _ (0, 0) (0, 0) _ _ (.int .i64 er) rfl (HR3.out.rowD (a := .int .i64 p0) (b := .int .i64 p1)) rfl HR3.out.rowPD rfl Tryz.underlying30 rfl sizeModel Tryz.underlying32 rfl infoPos) rfl (rd_failD HR3.out HX.out)
end Go.Proofs.YteejphiklpnjhaaGreatDoor
namespace Go.Proofs.YteejphiklpnjhaaGreatDoor
set_option maxRecDepth 100000
set_option maxHeartbeats 16000000
open Go.RowKit Go.Maps
open Go.Lib (hid)
theorem O.fit_aw : O.fitT (O.whoT O.awL) = true := by kernel_rfl
theorem cat3 (a q c : ByteArray) (l m n : List UInt8) (ha : a.data.toList = l) (hq : q = X.ba m) (hc : c.data.toList = n) : a ++ q ++ c = X.ba (l ++ m ++ n) := by
 subst hq
 obtain rfl : a = X.ba l := bytes_eq ha
 obtain rfl : c = X.ba n := bytes_eq hc
 rw [ba_app, ba_app]
theorem whole_any (q : List UInt8) (hq : q.length ≤ 1000) (w : World) : Calls Tryz.prog 6 #[.string (X.ba q)] w fun e w' => e = .returned (.string (X.ba (O.whoT q))) ∧ w' = w := by
 obtain ⟨s, hs⟩ : ∃ s, X.ba q = s := ⟨_, rfl⟩
 have hz : s.size ≤ 1000 := by rw [← hs, ba_size]; exact hq
 rw [hs]
 have HS := hid hs
 clear hs
 go_enter Tryz.func6, Tryz.ntmps6
 go_wp2_with fail
 go_ret
 refine ⟨?_, rfl⟩
 show Ending.returned (.string (_ ++ _ ++ _)) = _
 exact congrArg (fun s => Ending.returned (.string s)) (cat3 _ s _ O.whole1 q O.whole2 (by kernel_rfl) HS.out.symm (by kernel_rfl))
theorem read_known (l : List UInt8) (hl : l.length ≤ 60000) (hF : O.fitT l = true) {RES : Except Int O.M} (hT : O.text l = some RES) (W : World) (hE : EnvO W) :
  Calls Tryz.prog 7 #[.string (X.ba l)] W (RdOf W RES) :=
 model_read (X.ba l) (by rw [ba_size]; omega) (by show O.fitT l.toArray.toList = true; exact hF) (by show O.text l.toArray.toList = _; exact hT) W hE
theorem els_at {w : World} {B : Nat} {v : Value} {l : List O.El} (h : w.ownsRow B 36 11 v l.length (elsC l)) (hl : 0 < l.length) : ∃ g c, v = .slice (some ⟨g, 0, none⟩) l.length c ∧ g < w.heap.size ∧ l.length ≤ c ∧ ∀ j u, (elsC l)[j]? = some u → w.cell? ⟨g, j, none⟩ = some u := by
 have hc := fun g (hg : v.ownBlock = some g) => World.ownsRow.cells h hg
 rcases h.2 with ⟨_, h0⟩ | ⟨g, cap, cur, rfl, hB, hg, hcap, _⟩
 · omega
 · refine ⟨g, cap, rfl, Go.lt_of_block hg, hcap, fun j u hu => ?_⟩
   have := hc g rfl j u hu
   have e : (⟨g, 0, none⟩ : Addr).add j = ⟨g, j, none⟩ := by unfold Addr.add; split <;> simp_all
   rw [e] at this
   exact this
theorem fls_at {w : World} {B : Nat} {v : Value} {l : List O.Fl} (h : w.ownsRow B 53 4 v l.length (flsC l)) (hl : 0 < l.length) : ∃ g c, v = .slice (some ⟨g, 0, none⟩) l.length c ∧ g < w.heap.size ∧ l.length ≤ c ∧ ∀ j u, (flsC l)[j]? = some u → w.cell? ⟨g, j, none⟩ = some u := by
 have hc := fun g (hg : v.ownBlock = some g) => World.ownsRow.cells h hg
 rcases h.2 with ⟨_, h0⟩ | ⟨g, cap, cur, rfl, hB, hg, hcap, _⟩
 · omega
 · refine ⟨g, cap, rfl, Go.lt_of_block hg, hcap, fun j u hu => ?_⟩
   have := hc g rfl j u hu
   have e : (⟨g, 0, none⟩ : Addr).add j = ⟨g, j, none⟩ := by unfold Addr.add; split <;> simp_all
   rw [e] at this
   exact this
theorem vas_at {w : World} {P : Nat → Prop} {v : Value} {l : List O.Va} (h : VasIn w P l v) (hl : 0 < l.length) : ∃ g c, v = .slice (some ⟨g, 0, none⟩) l.length c ∧ P g ∧ l.length ≤ c ∧ ∀ j u, (vasC l)[j]? = some u → w.cell? ⟨g, j, none⟩ = some u := by
 rcases h with ⟨rfl, _⟩ | ⟨g, c, h1, h2, h3, h4⟩
 · cases hl
 · exact ⟨g, c, h1, h2, h3, h4⟩
theorem awake_any (W : World) (hE : EnvO W) : Calls Tryz.prog 8 #[] W fun en W' => en = .returned (.bool true) ∧ Below W.heap.size W W' := by
 have cR := read_known (O.whoT O.awL) (by decide) O.fit_aw O.text_aw W hE
 have cW := whole_any O.awL (by decide) W
 obtain ⟨sW, hsW⟩ : ∃ s, X.ba (O.whoT O.awL) = s := ⟨_, rfl⟩
 rw [hsW] at cR cW
 clear hE hsW
 go_enter Tryz.func8, Tryz.ntmps8
 go_wp2_with fail
 refine cW.mono ?_
 rintro e w1 ⟨rfl, rfl⟩
 clear cW
 go_wp2_with fail
 refine cR.mono ?_
 clear cR
 rintro e w2 (⟨m, vv, ev, fv, hx, rfl, hv, heo, hfo, hb⟩ | ⟨e, p0, p1, hx, -, -⟩)
 rotate_left
 · cases hx
 obtain rfl : O.awM = m := by injection hx
 clear hx
 obtain ⟨gv, vc, rfl, hgv, hvc, hva⟩ := vas_at hv (by decide)
 obtain ⟨ge, ec, rfl, hge, hec, hea⟩ := els_at heo (by decide)
 obtain ⟨gf, fc, rfl, hgf, hfc, hfa⟩ := fls_at hfo (by decide)
 rw [show O.awM.vars.length = 1 from rfl] at hvc ⊢
 rw [show O.awM.els.length = 2 from rfl] at hec ⊢
 rw [show O.awM.fls.length = 1 from rfl] at hfc ⊢
 rw [show X.ba O.awM.id = ⟨#[112]⟩ from rfl, show X.ba O.awM.nm = ⟨#[]⟩ from rfl]
 obtain ⟨D, hD⟩ : ∃ D, w2.heap.size = D := ⟨_, rfl⟩
 obtain ⟨w3, hw3⟩ : ∃ w, (w2.alloc (.cells #[.string ⟨#[112]⟩, .string ⟨#[]⟩, .slice (some ⟨gv, 0, none⟩) 1 vc, .slice (some ⟨ge, 0, none⟩) 2 ec, .slice (some ⟨gf, 0, none⟩) 1 fc] 30)).alloc (.cells #[.int .i64 0, .int .i64 0] 32) = w := ⟨_, rfl⟩
 have hb3 : Below w2.heap.size w2 w3 := by rw [← hw3]; exact ((Below.refl _ w2).alloc (Nat.le_refl _) _).alloc (by simp) _
 have hd3 : w3.heap[D]? = some (.cells #[.string ⟨#[112]⟩, .string ⟨#[]⟩, .slice (some ⟨gv, 0, none⟩) 1 vc, .slice (some ⟨ge, 0, none⟩) 2 ec, .slice (some ⟨gf, 0, none⟩) 1 fc] 30 (0, 0)) := by
   rw [← hw3, Go.Lib.alloc_old _ _ _ (by simp; omega), ← hD]
   exact heap_alloc_new w2 _
 have HB : Hid (Below w1.heap.size w1 w3) := hb.trans (hb3.mono hb.size)
 obtain ⟨d0, d1, d2, d3, d4, -, -, -, -, -⟩ := rowN5 hd3
 have a0 := (hb3.cell (p := ⟨gv, 0, none⟩) hgv.2).trans (hva 0 (.string ⟨#[120]⟩) rfl)
 have a1 := (hb3.cell (p := ⟨gv, 1, none⟩) hgv.2).trans (hva 1 (.int .u8 1) rfl)
 have a2 := (hb3.cell (p := ⟨gv, 2, none⟩) hgv.2).trans (hva 2 (.int .i64 3) rfl)
 have a3 := (hb3.cell (p := ⟨gv, 3, none⟩) hgv.2).trans (hva 3 (.bool false) rfl)
 have a4 := (hb3.cell (p := ⟨gv, 4, none⟩) hgv.2).trans (hva 4 (.string ⟨#[]⟩) rfl)
 have b0 := (hb3.cell (p := ⟨ge, 13, none⟩) hge).trans (hea 13 (.int .u8 2) rfl)
 have c0 := (hb3.cell (p := ⟨gf, 0, none⟩) hgf).trans (hfa 0 (.string ⟨#[102]⟩) rfl)
 have c1 := (hb3.cell (p := ⟨gf, 1, none⟩) hgf).trans (hfa 1 (.string ⟨#[115]⟩) rfl)
 have c2 := (hb3.cell (p := ⟨gf, 2, none⟩) hgf).trans (hfa 2 (.string ⟨#[101]⟩) rfl)
 have c3 := (hb3.cell (p := ⟨gf, 3, none⟩) hgf).trans (hfa 3 (.string ⟨#[]⟩) rfl)
 have eB : ∀ Z : World, (binOp .eql 51 (.agg #[.string ⟨#[120]⟩, .int .u8 1, .int .i64 3, .bool false, .string ⟨#[]⟩]) (.agg #[.string ⟨#[120]⟩, .int .u8 1, .int .i64 3, .bool false, .string ⟨#[]⟩])).run Tryz.prog Z = .ok (.bool true) Z := fun Z => (Bd.eql ⟨⟨#[120]⟩, 1, 3, false, ⟨#[]⟩⟩ ⟨⟨#[120]⟩, 1, 3, false, ⟨#[]⟩⟩ Z).trans (by rw [decide_eq_true rfl])
 have eF : ∀ Z : World, (binOp .eql 53 (.agg #[.string ⟨#[102]⟩, .string ⟨#[115]⟩, .string ⟨#[101]⟩, .string ⟨#[]⟩]) (.agg #[.string ⟨#[102]⟩, .string ⟨#[115]⟩, .string ⟨#[101]⟩, .string ⟨#[]⟩])).run Tryz.prog Z = .ok (.bool true) Z := fun Z => (Fw.eql ⟨⟨#[102]⟩, ⟨#[115]⟩, ⟨#[101]⟩, ⟨#[]⟩⟩ ⟨⟨#[102]⟩, ⟨#[115]⟩, ⟨#[101]⟩, ⟨#[]⟩⟩ Z).trans (by rw [decide_eq_true rfl])
 have HW3 := hid hw3
 have HDE := hid hD
 clear hv heo hfo hb hva hea hfa hgv hge hgf hb3 hd3 hw3 hD
 go_upto_region 2 with fail
 rw [HW3.out, HDE.out]
 clear HW3 HDE
 go_wp2_with fail
 go_ret
 exact ⟨rfl, HB.out⟩
end Go.Proofs.YteejphiklpnjhaaGreatDoor
