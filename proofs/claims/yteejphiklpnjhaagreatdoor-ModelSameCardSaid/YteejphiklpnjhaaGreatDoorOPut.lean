/- put: the items of a process, and of those that it calls, are put into a model. -/
import Derived.Test.YteejphiklpnjhaaGreatDoorOPutG
namespace Go.Proofs.YteejphiklpnjhaaGreatDoor
set_option maxRecDepth 100000
set_option maxHeartbeats 16000000
open Go.RowKit Go.Maps
open Go.Lib (hid)
theorem fitI_parts {i : O.It} (h : O.fitI i = true) : i.e.id.length ≤ 100000 ∧ i.called.length ≤ 100000 ∧ i.e.dflt = [] ∧ i.e.kind ≠ 9 ∧ i.e.kind ≤ 8 ∧ ∀ f, i.fl = some f → f.id.length ≤ 100000 ∧ f.fr.length ≤ 100000 ∧ f.dst.length ≤ 100000 := by
 unfold O.fitI at h
 rw [Bool.and_eq_true] at h
 have h1 := of_decide_eq_true h.1
 refine ⟨h1.1, h1.2.1, h1.2.2.1, h1.2.2.2.1, h1.2.2.2.2, fun f hf => ?_⟩
 have h2 := h.2
 rw [hf] at h2
 exact of_decide_eq_true h2
theorem put_eq_flow {all : List O.Pr} {k : Nat} {x : O.It} {l : List O.It} {inn ah : List UInt8} {ns : List (List UInt8)} {es : List O.El} {fs : List O.Fl} {fl : O.Fl} (h : x.fl = some fl) :
  O.put all (k + 1) (x :: l) inn ah ns es fs = if fs.length = 128 then some (.error (3, x.ln, x.cl)) else O.put all k l inn ah ns es (fs ++ [⟨ah ++ fl.id, ah ++ fl.fr, ah ++ fl.dst⟩]) := by
 obtain ⟨ln, cl, f, e, ca, c⟩ := x
 cases h
 rfl
theorem put_eq_elem {all : List O.Pr} {k : Nat} {x : O.It} {l : List O.It} {inn ah : List UInt8} {ns : List (List UInt8)} {es : List O.El} {fs : List O.Fl} (h : x.fl = none) (hd : x.e.dflt = []) (h9 : x.e.kind ≠ 9) :
  O.put all (k + 1) (x :: l) inn ah ns es fs = if es.length = 64 then some (.error (3, x.ln, x.cl)) else if x.e.kind = 10 ∧ x.call = true then (match O.callee all x.called ns with
   | .error e => some (.error (e, x.ln, x.cl))
   | .ok p => match O.put all k p.items (ah ++ x.e.id) ((ah ++ x.e.id) ++ [46]) (ns ++ [x.called]) (es ++ [⟨ah ++ x.e.id, x.e.nm, x.e.kind, inn, x.e.dflt, x.e.att, x.e.tries⟩]) fs with
     | none => none
     | some (.error e) => some (.error e)
     | some (.ok (es, fs)) => O.put all k l inn ah ns es fs) else O.put all k l inn ah ns (es ++ [⟨ah ++ x.e.id, x.e.nm, x.e.kind, inn, x.e.dflt, x.e.att, x.e.tries⟩]) fs := by
 obtain ⟨ln, cl, f, e, ca, c⟩ := x
 obtain ⟨id, nm, kind, inn0, dflt, att, tries⟩ := e
 simp only at h hd h9
 subst h hd
 have e9 : ∀ (a b : List UInt8), (if kind = 9 then a else b) = b := fun a b => if_neg h9
 have ed : ∀ (a b : List UInt8), (if ([] : List UInt8) ≠ [] then a else b) = b := fun a b => if_neg (by simp)
 conv => lhs; unfold O.put
 simp only [e9, ed]
 rfl
theorem slice_nv {w : World} {ns : List (List UInt8)} {nv : Value} (h : SIn w ns nv) : ∃ a n c, nv = .slice a n c ∧ n = ns.length := by
 obtain ⟨a, c, h⟩ := h.shape
 exact ⟨a, _, c, h, rfl⟩
theorem put_step {P : Nat → Prop} {all : List O.Pr} (hall : all.length ≤ 100000) (hfit : ∀ p ∈ all, p.items.all O.fitI = true ∧ p.items.length ≤ 2000) (F : Nat) (ih : ∀ k, k < F → PutC P all k) : PutC P all F := by
 intro l inn ah ns es0 fs0 r lv nv w Y B m0 m1 m2 al ev0 fv0 hput hin hl hlf hll hah hns
 obtain ⟨nad, nl, ncp, rfl, hnl⟩ := slice_nv hin.n
 obtain ⟨Q, hQ⟩ : ∃ Q, w.heap.size = Q := ⟨_, rfl⟩
 obtain ⟨w1, hw1⟩ : ∃ w1, w.alloc (.cells #[.string (X.ba inn), .string (X.ba ah), .slice nad nl ncp] 112) = w1 := ⟨_, rfl⟩
 have hb1 : Below w.heap.size w w1 := by rw [← hw1]; exact (Below.refl _ w).alloc (Nat.le_refl _) _
 have HQ1 : Hid (w1.heap[Q]? = some (.cells #[.string (X.ba inn), .string (X.ba ah), .slice nad nl ncp] 112 (0, 0))) := by show _ = _; rw [← hw1, ← hQ]; exact heap_alloc_new w _
 have HPl : Hid (∀ b, P b → b < w.heap.size) := fun b hb => Nat.lt_of_lt_of_le (hin.p b hb).1 hin.pm.hB
 have HP : Hid (∀ b, P b → b < B ∧ b ≠ Y) := hin.p
 have HP1' := hin.pm.below hb1
 have HL1 : Hid (ItsIn w1 P l lv) := hl.keep (fun _ h => h) (fun b hb => hb1.block b (HPl.out b hb))
 have HA1 : Hid (PrsIn w1 P all al) := hin.al.keep (fun _ h => h) (fun b hb => hb1.block b (HPl.out b hb))
 have HN1 := hid (hin.n.below hb1)
 have HE0 : Hid (es0.length ≤ 64 ∧ fs0.length ≤ 128) := ⟨hin.e, hin.f⟩
 have HPUT := hid hput
 have HLF := hid hlf
 have HLL := hid hll
 have HAH := hid hah
 have HNS := hid hns
 have HALL := hid hall
 have HFIT := hid hfit
 have IH := hid ih
 have HQL : Hid (Q < w1.heap.size ∧ Q = w.heap.size) := ⟨Go.lt_of_block HQ1.out, hQ.symm⟩
 obtain ⟨lad, lcp, rfl⟩ := hl.shape
 obtain ⟨n, hn⟩ : ∃ n, l.length = n := ⟨_, rfl⟩
 have HN := hid hn
 obtain ⟨ead0, ecp0, rfl⟩ : ∃ a c, ev0 = .slice a es0.length c := own_form hin.pm.eo
 obtain ⟨fad0, fcp0, rfl⟩ : ∃ a c, fv0 = .slice a fs0.length c := own_form hin.pm.fo
 have HP1 := hid HP1'
 have HF1 := hid (Fr.below hb1 Y (.slice ead0 es0.length ecp0) (.slice fad0 fs0.length fcp0))
 rw [hn] at HL1 ⊢
 have HW1 := hid hw1
 have HQE := hid hQ
 clear hput hin hl hlf hll hah hns hall hfit ih hb1 hQ hw1 hn hnl HP1'
 go_enter Tryz.func44, Tryz.ntmps44
 go_upto_region 1 with fail
 rw [HW1.out, HQE.out]
 clear HW1 HQE
 go_wp2_with fail
 go_loopw [21] (fun vi wr => ∃ (i k : Nat) (es : List O.El) (fs : List O.Fl) (ead : Option Addr) (ecp : Nat) (fad : Option Addr) (fcp : Nat), vi = .int .i64 i ∧ Hid (i ≤ n ∧ k ≤ F ∧ O.put all k (l.drop i) inn ah ns es fs = some r ∧ es.length ≤ 64 ∧ fs.length ≤ 128) ∧ Hid (PM Y B m0 m1 m2 al es fs (.slice ead es.length ecp) (.slice fad fs.length fcp) wr) ∧ Hid (Fr w1 wr Y (.slice ead0 es0.length ecp0) (.slice fad0 fs0.length fcp0) (.slice ead es.length ecp) (.slice fad fs.length fcp))) (fun vi _ => n - (intOf vi).toNat)
 case atStart => exact ⟨0, F, es0, fs0, ead0, ecp0, fad0, fcp0, rfl, hid ⟨Nat.zero_le _, Nat.le_refl _, HPUT.out, HE0.out.1, HE0.out.2⟩, HP1, hid (Fr.refl _ _ _ _)⟩
 case round =>
  obtain ⟨i, k, es, fs, ead, ecp, fad, fcp, rfl, HI, HM, HF⟩ := hrel
  clear HPUT HE0
  rcases Nat.lt_or_ge i n with hlt | hge
  rotate_left
  · have t0 : decide ((i : Int) < (n : Int)) = false := decide_eq_false (by omega)
    have t0' : decide (i < n) = false := decide_eq_false (by omega)
    have HR : Hid (r = .ok (es, fs)) := by
      have h := HI.out.2.2.1
      rw [List.drop_of_length_le (by rw [HN.out]; exact hge)] at h
      cases k with
      | zero => cases h
      | succ k => exact (Option.some.inj h).symm
    go_wp2_with fail
    go_ret
    exact Or.inl ⟨es, fs, _, _, HR.out, rfl, HM.out, HF1.out.trans HF.out, HI.out.2.2.2.1, HI.out.2.2.2.2⟩
  have t0 : decide ((i : Int) < (n : Int)) = true := decide_eq_true (by omega)
  have t0' : decide (i < n) = true := decide_eq_true (by omega)
  obtain ⟨g, cs, rfl, hg, hcs, hc⟩ : ∃ g cs, lad = some ⟨g, 0, none⟩ ∧ P g ∧ Its w1 P l cs ∧ ∀ j u, cs[j]? = some u → w1.cell? ⟨g, j, none⟩ = some u := by
    rcases HL1.out with ⟨h1, _⟩ | ⟨g, c, cs, he, h2, _, h4, h5⟩
    · have := HN.out; rw [h1] at this; simp at this; omega
    · simp only [Value.slice.injEq] at he; exact ⟨g, cs, he.1, h2, h4, h5⟩
  have hlt' : i < l.length := by rw [HN.out]; exact hlt
  obtain ⟨x, hx⟩ : ∃ x, l[i]? = some x := ⟨_, List.getElem?_eq_getElem hlt'⟩
  obtain ⟨ds, hds, hat⟩ := Its.at l cs i x hcs hx
  obtain ⟨fp, iv, rfl, hfp, hiv⟩ := hds
  obtain ⟨q, rfl, hq⟩ : ∃ q, fp = .pointer q ∧ ((x.fl = none ∧ q = none) ∨ ∃ fl G, x.fl = some fl ∧ q = some ⟨G, 0, none⟩ ∧ P G ∧ w1.heap[G]? = some (flowRow fl)) := by
    rcases hfp with ⟨h1, h2⟩ | ⟨fl, G, h1, h2, h3, h4⟩
    · exact ⟨none, h2, Or.inl ⟨h1, rfl⟩⟩
    · exact ⟨_, h2, Or.inr ⟨fl, G, h1, rfl, h3, h4⟩⟩
  obtain ⟨a, rfl, ha⟩ : ∃ a, iv = .slice a 0 0 ∧ x.call = a.isSome := by
    rcases hiv with ⟨h1, h2⟩ | ⟨h1, a, h2⟩
    · exact ⟨none, h2, h1⟩
    · exact ⟨some a, h2, h1⟩
  have hfit := fitI_parts (List.all_eq_true.1 HLF.out x (List.mem_of_getElem? hx))
  have hdrop : l.drop i = x :: l.drop (i + 1) := by
    rw [List.drop_eq_getElem_cons hlt']
    rw [List.getElem?_eq_getElem hlt'] at hx
    rw [Option.some.inj hx]
  have hgf := HF.out.far HP1.out (HP.out g hg).1 (HP.out g hg).2
  have cc := fun j u (hu : (itC x (.pointer q) (.slice a 0 0))[j]? = some u) => (World.cell?_of_block (w := w1) (a := ⟨g, i * 16 + j, none⟩) hgf).trans (hc _ _ (hat j u hu))
  have d0 := cc 0 _ rfl
  have d1 := cc 1 _ rfl
  have d2 := cc 2 _ rfl
  have d3 := cc 3 _ rfl
  have d4 := cc 4 _ rfl
  have d5 := cc 5 _ rfl
  have d6 := cc 6 _ rfl
  have d7 := cc 7 _ rfl
  have d8 := cc 8 _ rfl
  have d9 := cc 9 _ rfl
  have d10 := cc 10 _ rfl
  have d11 := cc 11 _ rfl
  have d12 := cc 12 _ rfl
  have d13 := cc 13 _ rfl
  have d14 := cc 14 _ rfl
  have d15 := cc 15 _ rfl
  rw [Nat.add_zero] at d0
  obtain ⟨k', rfl⟩ : ∃ k', k = k' + 1 := by
    cases k with
    | zero => have h := HI.out.2.2.1; cases h
    | succ k' => exact ⟨k', rfl⟩
  have HPX : Hid (O.put all (k' + 1) (x :: l.drop (i + 1)) inn ah ns es fs = some r) := by have h := HI.out.2.2.1; rw [hdrop] at h; exact h
  obtain ⟨J, hJ⟩ : ∃ J, wr.heap.size = J := ⟨_, rfl⟩
  obtain ⟨w3, hw3⟩ : ∃ v, wr.alloc (.cells #[.int .i64 x.ln, .int .i64 x.cl, .pointer q, .string (X.ba x.e.id), .string (X.ba x.e.nm), .int .u8 x.e.kind, .string (X.ba x.e.inn), .string (X.ba x.e.dflt), .string (X.ba x.e.att), .int .u8 0, .string ⟨#[]⟩, .string ⟨#[]⟩, .int .i64 0, .int .i64 x.e.tries, .string (X.ba x.called), .slice a 0 0] 144) = v := ⟨_, rfl⟩
  have hb3 : Below wr.heap.size wr w3 := by rw [← hw3]; exact (Below.refl _ wr).alloc (Nat.le_refl _) _
  have HJ3 : Hid (w3.heap[J]? = some (.cells #[.int .i64 x.ln, .int .i64 x.cl, .pointer q, .string (X.ba x.e.id), .string (X.ba x.e.nm), .int .u8 x.e.kind, .string (X.ba x.e.inn), .string (X.ba x.e.dflt), .string (X.ba x.e.att), .int .u8 0, .string ⟨#[]⟩, .string ⟨#[]⟩, .int .i64 0, .int .i64 x.e.tries, .string (X.ba x.called), .slice a 0 0] 144 (0, 0))) := by show _ = _; rw [← hw3, ← hJ]; exact heap_alloc_new wr _
  have HM3 := hid (HM.out.below hb3)
  have HF3 := hid (HF.out.trans (Fr.below hb3 Y _ _))
  have HQ3 : Hid (w3.heap[Q]? = some (.cells #[.string (X.ba inn), .string (X.ba ah), .slice nad nl ncp] 112 (0, 0))) := (HF3.out.other HP1.out HQ1.out (by decide) (by decide) (by decide)).trans HQ1.out
  have HI2 : Hid (i < n ∧ k' + 1 ≤ F ∧ es.length ≤ 64 ∧ fs.length ≤ 128) := ⟨hlt, HI.out.2.1, HI.out.2.2.2⟩
  obtain ⟨i1, hi1⟩ : ∃ i1, i + 1 = i1 := ⟨_, rfl⟩
  have e1 : IntKind.i64.wrap ((i : Int) + 1) = (i1 : Int) := by have := HLL.out; have := HN.out; rw [IntKind.wrap_i64] <;> omega
  have HM1 : Hid (i1 ≤ n ∧ n - i1 < n - i) := by show _ ∧ _; omega
  rw [hi1] at HPX
  have HFT := hid hfit
  have HAC := hid ha
  have HW3 := hid hw3
  have HJE := hid hJ
  have HS3 : Hid (w.heap.size ≤ w3.heap.size) := by have := HQL.out; have := HF3.out.size; show _ ≤ _; omega
  have HAL : Hid (ah.length ≤ 1000000000) := by have := HAH.out; show _ ≤ _; omega
  clear hcs hc hat hfp hiv hfit hdrop hgf cc hb3 hw3 hJ ha hi1 hg hlt' hx HI HM HF
  go_upto_region 5 with fail
  rw [HW3.out, HJE.out]
  clear HW3 HJE d0 d1 d2 d3 d4 d5 d6 d7 d8 d9 d10 d11 d12 d13 d14 d15
  have d2 := rowCell HJ3.out 2
  rcases hq with ⟨hfl, rfl⟩ | ⟨fl, G, hfl, rfl, hPG, hG⟩
  · have HEQ := hid (HPX.out.symm.trans (put_eq_elem hfl HFT.out.2.2.1 HFT.out.2.2.2.1))
    clear hfl HPX
    go_upto_if 27 with fail
    clear d2
    refine wp_cond_false rfl (wp_skip ?_)
    rename Act → World → Prop => KK
    rename ∀ (a : Act) (w : World), _ → KK a w => hKK
    refine (show KK _ _ from hKK _ _ (put_elemA HM3.out HQ3.out HJ3.out HAL.out HFT.out.1 HFT.out.2.2.1 HFT.out.2.2.2.1 HI2.out.2.2.1 ?_ ?_))
    · intro hfull g1 w4 u73 u74 u75 u76 u77 u78 u79 u80 u81 u82 u83 hg hrow hb
      have HR : Hid (r = .error (3, x.ln, x.cl)) := by have h := HEQ.out; rw [if_pos hfull] at h; exact Option.some.inj h
      have HG : Hid (w.heap.size ≤ g1) := Nat.le_trans HS3.out hg
      have HRW := hid hrow
      have HFF := hid ((HF1.out.trans HF3.out).trans (Fr.below hb Y _ _))
      clear hfull hg hrow hb
      go_wp2_with fail
      go_ret
      exact Or.inr ⟨_, g1, _, _, HR.out, rfl, HG.out, HRW.out, HFF.out⟩
    · intro hfew K g1 cap1 w4 u73 u74 u75 u76 u77 u78 u79 u84 u85 u86 u87 u88 u89 u90 u91 u92 u93 u94 u95 u96 u97 u104 u105 u106 u113 u114 u115 u116 u117 u118 u119 u120 u121 u122 u123 u124 hKs hK4 hm4 hf4
      have HM4 := hid hm4
      have HF4 := hid (HF3.out.trans hf4)
      have HK4 := hid hK4
      have HQ4 : Hid (w4.heap[Q]? = some (.cells #[.string (X.ba inn), .string (X.ba ah), .slice nad nl ncp] 112 (0, 0))) := (hf4.other HM3.out HQ3.out (by decide) (by decide) (by decide)).trans HQ3.out
      have HJ4 : Hid (w4.heap[J]? = some (.cells #[.int .i64 x.ln, .int .i64 x.cl, .pointer none, .string (X.ba x.e.id), .string (X.ba x.e.nm), .int .u8 x.e.kind, .string (X.ba x.e.inn), .string (X.ba x.e.dflt), .string (X.ba x.e.att), .int .u8 0, .string ⟨#[]⟩, .string ⟨#[]⟩, .int .i64 0, .int .i64 x.e.tries, .string (X.ba x.called), .slice a 0 0] 144 (0, 0))) := (hf4.other HM3.out HJ3.out (by decide) (by decide) (by decide)).trans HJ3.out
      have HS4 : Hid (w.heap.size ≤ w4.heap.size) := Nat.le_trans HS3.out hf4.size
      have HEQ2 : Hid (some r = if x.e.kind = 10 ∧ x.call = true then (match O.callee all x.called ns with
        | .error e => some (.error (e, x.ln, x.cl))
        | .ok p => match O.put all k' p.items (ah ++ x.e.id) ((ah ++ x.e.id) ++ [46]) (ns ++ [x.called]) (es ++ [(⟨ah ++ x.e.id, x.e.nm, x.e.kind, inn, x.e.dflt, x.e.att, x.e.tries⟩ : O.El)]) fs with
          | none => none
          | some (.error e) => some (.error e)
          | some (.ok (es, fs)) => O.put all k' (l.drop i1) inn ah ns es fs) else O.put all k' (l.drop i1) inn ah ns (es ++ [(⟨ah ++ x.e.id, x.e.nm, x.e.kind, inn, x.e.dflt, x.e.att, x.e.tries⟩ : O.El)]) fs) := by
        have h := HEQ.out
        rw [if_neg (by omega)] at h
        exact h
      have HLE : Hid ((es ++ [(⟨ah ++ x.e.id, x.e.nm, x.e.kind, inn, x.e.dflt, x.e.att, x.e.tries⟩ : O.El)]).length ≤ 64) := by show _ ≤ _; rw [List.length_append, List.length_singleton]; omega
      have HLN : Hid (es.length + 1 = (es ++ [(⟨ah ++ x.e.id, x.e.nm, x.e.kind, inn, x.e.dflt, x.e.att, x.e.tries⟩ : O.El)]).length) := by show _ = _; rw [List.length_append, List.length_singleton]
      clear hfew hKs hK4 hm4 hf4 HEQ
      rw [HLN.out] at HM4 HF4
      have hk : ¬ x.e.kind = 10 := by have := HFT.out.2.2.2.2.1; omega
      have HX6 : Hid (i1 ≤ n ∧ k' ≤ F ∧ O.put all k' (l.drop i1) inn ah ns (es ++ [(⟨ah ++ x.e.id, x.e.nm, x.e.kind, inn, x.e.dflt, x.e.att, x.e.tries⟩ : O.El)]) fs = some r ∧ (es ++ [(⟨ah ++ x.e.id, x.e.nm, x.e.kind, inn, x.e.dflt, x.e.att, x.e.tries⟩ : O.El)]).length ≤ 64 ∧ fs.length ≤ 128) :=
        ⟨HM1.out.1, by have := HI2.out.2.1; omega, by have h := HEQ2.out; rw [if_neg (fun h => hk h.1)] at h; exact h.symm, HLE.out, HI2.out.2.2.2⟩
      refine put_elemB_else HM4.out HQ4.out HK4.out HJ4.out hk ?_
      intro w5 u12 u13 u14 u15 u16 u125 u126 u127 u128 u129 u130 u131 u132 u133 u134 u135 u136 u137 u138 u139 u140 u141 u142 u143 u144 u145 u146 u147 u148 u149 u150 u151 u152 u153 u154 u155 u156 u157 u158 u159 u160 u161 u162 u163 u164 u165 u166 u167 u168 u169 u170 u171 u172 hb5
      have HM5 := hid (HM4.out.below hb5)
      have HF5 := hid (HF4.out.trans (Fr.below hb5 Y _ _))
      clear hb5 hk
      go_wp2_with fail
      go_roundw
      case rel => first | exact ⟨i1, k', _, fs, _, _, fad, fcp, rfl, HX6, HM5, HF5⟩ | ((repeat apply Exists.intro); exact ⟨⟨i1, k', _, fs, _, _, fad, fcp, rfl, HX6, HM5, HF5⟩, rfl⟩)
      case measure => simpa [intOf] using HM1.out.2
  · have HEQ := hid (HPX.out.symm.trans (put_eq_flow hfl))
    have HGF : Hid (w3.heap[G]? = some (.cells #[.string (X.ba fl.id), .string (X.ba fl.fr), .string (X.ba fl.dst), .string ⟨#[]⟩] 53 (0, 0))) := (HF3.out.far HP1.out (HP.out G hPG).1 (HP.out G hPG).2).trans hG
    have HFL := hid (HFT.out.2.2.2.2.2 fl hfl)
    clear hPG hG hfl HPX
    go_upto_if 27 with fail
    clear d2
    refine wp_cond_true rfl ?_
    refine put_flow HM3.out HQ3.out HJ3.out HGF.out HAL.out HFL.out HI2.out.2.2.2 ?_ ?_
    · intro hfull g1 w4 u28 u29 u30 u31 u32 u33 u34 u35 u36 u37 u38 hg hrow hb
      have HR : Hid (r = .error (3, x.ln, x.cl)) := by have h := HEQ.out; rw [if_pos hfull] at h; exact Option.some.inj h
      have HG : Hid (w.heap.size ≤ g1) := Nat.le_trans HS3.out hg
      have HRW := hid hrow
      have HFF := hid ((HF1.out.trans HF3.out).trans (Fr.below hb Y _ _))
      clear hfull hg hrow hb
      go_wp2_with fail
      go_ret
      exact Or.inr ⟨_, g1, _, _, HR.out, rfl, HG.out, HRW.out, HFF.out⟩
    · intro hfew g1 cap1 w4 u10 u28 u29 u30 u31 u32 u33 u34 u39 u40 u41 u42 u43 u44 u45 u46 u47 u48 u49 u50 u51 u52 u53 u54 u55 u56 u57 u58 u59 u60 u61 u62 u63 u64 u65 u66 u67 u68 u69 u70 u71 u72 hm4 hf4
      have HLN : Hid (fs.length + 1 = (fs ++ [(⟨ah ++ fl.id, ah ++ fl.fr, ah ++ fl.dst⟩ : O.Fl)]).length) := by show _ = _; rw [List.length_append, List.length_singleton]
      have HM4 := hid hm4
      have HF4 := hid (HF3.out.trans hf4)
      rw [HLN.out] at HM4 HF4
      have HX6 : Hid (i1 ≤ n ∧ k' ≤ F ∧ O.put all k' (l.drop i1) inn ah ns es (fs ++ [(⟨ah ++ fl.id, ah ++ fl.fr, ah ++ fl.dst⟩ : O.Fl)]) = some r ∧ es.length ≤ 64 ∧ (fs ++ [(⟨ah ++ fl.id, ah ++ fl.fr, ah ++ fl.dst⟩ : O.Fl)]).length ≤ 128) :=
        ⟨HM1.out.1, by have := HI2.out.2.1; omega, by have h := HEQ.out; rw [if_neg (by omega)] at h; exact h.symm, HI2.out.2.2.1, by rw [List.length_append, List.length_singleton]; omega⟩
      clear hfew hm4 hf4
      go_wp2_with fail
      go_roundw
      case rel => first | exact ⟨i1, k', es, _, ead, ecp, _, _, rfl, HX6, HM4, HF4⟩ | ((repeat apply Exists.intro); exact ⟨⟨i1, k', es, _, ead, ecp, _, _, rfl, HX6, HM4, HF4⟩, rfl⟩)
      case measure => simpa [intOf] using HM1.out.2
theorem put_any {P : Nat → Prop} {all : List O.Pr} (hall : all.length ≤ 100000) (hfit : ∀ p ∈ all, p.items.all O.fitI = true ∧ p.items.length ≤ 2000) : ∀ k, PutC P all k := by
 intro k
 induction k using Nat.strongRecOn with
 | ind k ih => exact put_step hall hfit k ih
end Go.Proofs.YteejphiklpnjhaaGreatDoor
