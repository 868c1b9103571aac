/- Binds: patched, looked up, held against each other, appended. -/
import Derived.Test.YtohdifffdgoaaaaDoorVPutP
import Derived.Test.YtohdifffdgoaaaaDoorVClone
import Derived.Test.YtohdifffdgoaaaaDoorVBase
import Derived.Test.YtohdifffdgoaaaaDoorVCheck
import Derived.Test.YtohdifffdgoaaaaDoorVNums
import Derived.BigQuiet
import Derived.ProofKit
import Derived.Laws.OwnMore
namespace Go.Proofs.YtohdifffdgoaaaaDoor
open Go.RowKit
open Go.Lib (hid)
namespace V
/-- the bind of a name -/
def findB : List Bind → List UInt8 → Option Bind
  | [], _ => none
  | b :: r, x => if b.nm = x then some b else findB r x
theorem findB_some : ∀ {l : List Bind} {x : List UInt8} {b : Bind}, findB l x = some b → b ∈ l ∧ b.nm = x
  | [], _, _, h => by simp [findB] at h
  | c :: r, x, b, h => by
    unfold findB at h
    by_cases hc : c.nm = x
    · rw [if_pos hc] at h
      obtain rfl := Option.some.inj h
      exact ⟨by simp, hc⟩
    · rw [if_neg hc] at h
      exact ⟨List.mem_cons_of_mem _ (findB_some h).1, (findB_some h).2⟩
theorem findB_none : ∀ {l : List Bind} {x : List UInt8}, findB l x = none ↔ ∀ b ∈ l, b.nm ≠ x
  | [], x => by simp [findB]
  | c :: r, x => by
    unfold findB
    by_cases hc : c.nm = x
    · rw [if_pos hc]
      exact ⟨fun h => by simp at h, fun h => absurd hc (h c (by simp))⟩
    · rw [if_neg hc, findB_none]
      exact ⟨fun h b hb => by rcases List.mem_cons.1 hb with rfl | hb; exact hc; exact h b hb, fun h b hb => h b (List.mem_cons_of_mem _ hb)⟩
theorem findB_cons (c : Bind) (r : List Bind) (x : List UInt8) : findB (c :: r) x = if c.nm = x then some c else findB r x := rfl
theorem findB_append (x : List UInt8) : ∀ (a b : List Bind), findB (a ++ b) x = (findB a x).or (findB b x)
  | [], b => by simp [findB]
  | c :: r, b => by
    rw [List.cons_append, findB_cons, findB_cons]
    by_cases hc : c.nm = x
    · rw [if_pos hc, if_pos hc]; rfl
    · rw [if_neg hc, if_neg hc]; exact findB_append x r b
theorem findB_filter_out (f : Bind → Bool) (x : List UInt8) : ∀ (l : List Bind), (∀ b ∈ l, b.nm = x → f b = false) → findB (l.filter f) x = none := fun l h =>
  findB_none.2 fun b hb e => by
    have := List.mem_filter.1 hb
    rw [h b this.1 e] at this
    exact Bool.noConfusion this.2
theorem findB_filter_in (f : Bind → Bool) (x : List UInt8) : ∀ (l : List Bind), (∀ b ∈ l, b.nm = x → f b = true) → findB (l.filter f) x = findB l x
  | [], _ => rfl
  | c :: r, h => by
    have ih := findB_filter_in f x r fun b hb => h b (List.mem_cons_of_mem _ hb)
    by_cases hc : c.nm = x
    · rw [List.filter_cons_of_pos (h c (by simp) hc)]
      unfold findB
      rw [if_pos hc, if_pos hc]
    · have e : findB (c :: r) x = findB r x := by rw [findB, if_neg hc]
      rw [e, ← ih]
      cases hf : f c
      · rw [List.filter_cons_of_neg (by simp [hf])]
      · rw [List.filter_cons_of_pos hf, findB, if_neg hc]
def upd (p : List Bind) (o : Bind) : Bind := (findB p o.nm).getD o
theorem upd_def (p : List Bind) (o : Bind) : upd p o = (findB p o.nm).getD o := rfl
theorem upd_nm (p : List Bind) (o : Bind) : (upd p o).nm = o.nm := by
  unfold upd
  cases h : findB p o.nm
  · rfl
  · exact (findB_some h).2
theorem upd_upd (p : List Bind) (o : Bind) : upd p (upd p o) = upd p o := by
  rw [upd_def p (upd p o), upd_nm, upd_def]
  cases h : findB p o.nm <;> rfl
theorem checkFrom_zero : ∀ (bs : List Bind) (seen : List (List UInt8)), checkFrom seen bs = 0 ↔ (∀ b ∈ bs, b.fine = true) ∧ (bs.map Bind.nm).Nodup ∧ ∀ b ∈ bs, b.nm ∉ seen
  | [], seen => by simp [checkFrom]
  | b :: r, seen => by
    unfold checkFrom
    by_cases h : b.fine = false
    · rw [if_pos h]
      exact ⟨fun e => by simp at e, fun e => by have := e.1 b (by simp); rw [h] at this; cases this⟩
    · rw [if_neg h]
      have h' : b.fine = true := by simpa using h
      by_cases hs : b.nm ∈ seen
      · rw [if_pos hs]
        exact ⟨fun e => by simp at e, fun e => absurd hs (e.2.2 b (by simp))⟩
      · rw [if_neg hs, checkFrom_zero r]
        rw [List.map_cons, List.nodup_cons]
        constructor
        · rintro ⟨h1, h2, h3⟩
          refine ⟨fun c hc => ?_, ⟨fun hm => ?_, h2⟩, fun c hc => ?_⟩
          · rcases List.mem_cons.1 hc with rfl | hc
            · exact h'
            · exact h1 c hc
          · obtain ⟨c, hc, e⟩ := List.mem_map.1 hm
            exact h3 c hc (by rw [e]; simp)
          · rcases List.mem_cons.1 hc with rfl | hc
            · exact hs
            · exact fun e => h3 c hc (by simp [e])
        · rintro ⟨h1, ⟨h2, h3⟩, h4⟩
          refine ⟨fun c hc => h1 c (List.mem_cons_of_mem _ hc), h3, fun c hc e => ?_⟩
          rcases List.mem_append.1 e with e | e
          · exact h4 c (List.mem_cons_of_mem _ hc) e
          · exact h2 (List.mem_map.2 ⟨c, hc, by simpa using e⟩)
theorem checkB_zero (bs : List Bind) : checkB bs = 0 ↔ (∀ b ∈ bs, b.fine = true) ∧ (bs.map Bind.nm).Nodup := by
  unfold checkB
  rw [checkFrom_zero]
  simp
def Bind.kn (o : Bind) : List UInt8 × Nat := (o.nm, o.v.k)
def Fit (p os : List Bind) : Prop := ∀ c ∈ p, c.kn ∈ os.map Bind.kn
theorem lastIdx_none : ∀ (n : Nat) (l : List (List UInt8)) (x : List UInt8), l.length = n → lastIdx l x = none → x ∉ l := by
  intro n
  induction n with
  | zero =>
    intro l x hl _
    rw [List.eq_nil_of_length_eq_zero hl]
    simp
  | succ n ih =>
    intro l x hl h
    rcases List.eq_nil_or_concat l with rfl | ⟨r, y, rfl⟩
    · simp at hl
    · rw [List.concat_eq_append] at *
      rw [lastIdx_snoc] at h
      have hr : r.length = n := by simpa using hl
      by_cases hy : y = x
      · rw [if_pos hy] at h; cases h
      · rw [if_neg hy] at h
        have := ih r x hr h
        simp only [List.mem_append, List.mem_singleton]
        rintro (e | e)
        · exact this e
        · exact hy e.symm
theorem nodup_at {l : List (List UInt8)} (h : l.Nodup) {i j : Nat} {x : List UInt8} (hi : l[i]? = some x) (hj : l[j]? = some x) : i = j := by
  obtain ⟨hi', e1⟩ := List.getElem?_eq_some_iff.1 hi
  obtain ⟨hj', e2⟩ := List.getElem?_eq_some_iff.1 hj
  exact (List.getElem_inj h).1 (e1.trans e2.symm)
theorem putL_spec : ∀ (p os : List Bind) (names : List (List UInt8)), names = os.map Bind.nm → names.Nodup → (p.map Bind.nm).Nodup →
    (Fit p os ∧ putL names os p = (os.map (upd p), 0)) ∨ ((putL names os p).1 = [] ∧ (putL names os p).2 ≠ 0)
  | [], os, names, _, _, _ => by
    refine Or.inl ⟨fun c hc => by simp at hc, ?_⟩
    unfold putL
    rw [show (upd [] : Bind → Bind) = id from funext fun o => rfl, List.map_id]
  | b :: r, os, names, hn, hd, hp => by
    rw [List.map_cons, List.nodup_cons] at hp
    unfold putL
    cases hx : lastIdx names b.nm with
    | none => exact Or.inr ⟨rfl, by simp⟩
    | some i =>
      simp only
      obtain ⟨hi, hxi⟩ := lastIdx_lt _ names b.nm i rfl hx
      have hio : i < os.length := by rw [hn] at hi; simpa using hi
      have hoi : os[i]? = some os[i] := List.getElem?_eq_getElem hio
      have hnm : os[i].nm = b.nm := by
        rw [hn, List.getElem?_map, hoi] at hxi
        exact Option.some.inj hxi
      rw [hoi]
      simp only [Option.map_some]
      by_cases hk : os[i].v.k = b.v.k
      · rw [if_pos (by rw [hk])]
        have hkn : (os.set i b).map Bind.kn = os.map Bind.kn := by
          apply List.ext_getElem?
          intro j
          rw [List.map_set, List.getElem?_set]
          by_cases hj : i = j
          · subst hj
            rw [if_pos rfl, if_pos (by simpa using hio), List.getElem?_map, hoi]
            simp only [Option.map_some, Bind.kn, hnm, hk]
          · rw [if_neg hj]
        have hn' : names = (os.set i b).map Bind.nm := by
          rw [hn]
          apply List.ext_getElem?
          intro j
          rw [List.map_set, List.getElem?_set]
          by_cases hj : i = j
          · subst hj
            rw [if_pos rfl, if_pos (by simpa using hio), List.getElem?_map, hoi]
            simp only [Option.map_some, hnm]
          · rw [if_neg hj]
        have hmap : (os.set i b).map (upd r) = os.map (upd (b :: r)) := by
          apply List.ext_getElem?
          intro j
          rw [List.getElem?_map, List.getElem?_map, List.getElem?_set]
          by_cases hj : i = j
          · subst hj
            rw [if_pos rfl, if_pos hio, hoi]
            simp only [Option.map_some]
            have e1 : findB r b.nm = none := findB_none.2 fun c hc e => hp.1 (List.mem_map.2 ⟨c, hc, e⟩)
            unfold upd
            rw [e1, findB, if_pos hnm.symm]
            rfl
          · rw [if_neg hj]
            cases hjo : os[j]? with
            | none => rfl
            | some o =>
              simp only [Option.map_some]
              have hne : ¬ b.nm = o.nm := fun e => hj (nodup_at hd hxi (by rw [hn, List.getElem?_map, hjo, e]; rfl))
              unfold upd
              conv => rhs; rw [findB, if_neg hne]
        rcases putL_spec r (os.set i b) names hn' hd hp.2 with ⟨h1, h2⟩ | h
        · refine Or.inl ⟨fun c hc => ?_, by rw [h2, hmap]⟩
          rcases List.mem_cons.1 hc with rfl | hc
          · exact List.mem_map.2 ⟨os[i], List.getElem_mem hio, by simp only [Bind.kn, hnm, hk]⟩
          · rw [← hkn]; exact h1 c hc
        · exact Or.inr h
      · rw [if_neg (by simpa using hk)]
        exact Or.inr ⟨rfl, by simp⟩
theorem putL_fit : ∀ (p os : List Bind) (names : List (List UInt8)), names = os.map Bind.nm → names.Nodup → (p.map Bind.nm).Nodup → Fit p os → (putL names os p).2 = 0
  | [], os, names, _, _, _, _ => rfl
  | b :: r, os, names, hn, hd, hp, hf => by
    rw [List.map_cons, List.nodup_cons] at hp
    unfold putL
    obtain ⟨o, ho, eo⟩ := List.mem_map.1 (hf b (by simp))
    simp only [Bind.kn, Prod.mk.injEq] at eo
    cases hx : lastIdx names b.nm with
    | none => exact absurd (by rw [hn]; exact List.mem_map.2 ⟨o, ho, eo.1⟩) (lastIdx_none _ names b.nm rfl hx)
    | some i =>
      simp only
      obtain ⟨hi, hxi⟩ := lastIdx_lt _ names b.nm i rfl hx
      have hio : i < os.length := by rw [hn] at hi; simpa using hi
      have hoi : os[i]? = some os[i] := List.getElem?_eq_getElem hio
      have hnm : os[i].nm = b.nm := by
        rw [hn, List.getElem?_map, hoi] at hxi
        exact Option.some.inj hxi
      obtain ⟨j, hj⟩ := List.mem_iff_getElem?.1 ho
      have eij : i = j := nodup_at hd hxi (by rw [hn, List.getElem?_map, hj, ← eo.1]; rfl)
      subst eij
      have eo' : o = os[i] := by rw [hoi] at hj; exact (Option.some.inj hj).symm
      have hk : os[i].v.k = b.v.k := by rw [← eo']; exact eo.2
      rw [hoi]
      simp only [Option.map_some]
      rw [if_pos (by rw [hk])]
      have hkn : (os.set i b).map Bind.kn = os.map Bind.kn := by
        apply List.ext_getElem?
        intro j
        rw [List.map_set, List.getElem?_set]
        by_cases hj : i = j
        · subst hj
          rw [if_pos rfl, if_pos (by simpa using hio), List.getElem?_map, hoi]
          simp only [Option.map_some, Bind.kn, hnm, hk]
        · rw [if_neg hj]
      have hn' : names = (os.set i b).map Bind.nm := by
        rw [hn]
        apply List.ext_getElem?
        intro j
        rw [List.map_set, List.getElem?_set]
        by_cases hj : i = j
        · subst hj
          rw [if_pos rfl, if_pos (by simpa using hio), List.getElem?_map, hoi]
          simp only [Option.map_some, hnm]
        · rw [if_neg hj]
      exact putL_fit r (os.set i b) names hn' hd hp.2 fun c hc => by rw [hkn]; exact hf c (List.mem_cons_of_mem _ hc)
theorem put_fit {vars patch : List Bind} (h1 : checkB vars = 0) (h2 : checkB patch = 0) (hf : Fit patch vars) : put vars patch = (vars.map (upd patch), 0) := by
  unfold put
  rw [if_neg (by simp [h1]), if_neg (by simp [h2])]
  have hv := ((checkB_zero vars).1 h1).2
  have hp := ((checkB_zero patch).1 h2).2
  rcases putL_spec patch vars _ rfl hv hp with ⟨_, h⟩ | ⟨_, h⟩
  · exact h
  · exact absurd (putL_fit patch vars _ rfl hv hp hf) h
theorem put_cases (vars patch : List Bind) : ((put vars patch).1 = [] ∧ (put vars patch).2 ≠ 0) ∨ (checkB vars = 0 ∧ checkB patch = 0 ∧ Fit patch vars ∧ put vars patch = (vars.map (upd patch), 0)) := by
  by_cases h1 : checkB vars = 0
  · by_cases h2 : checkB patch = 0
    · have hv := ((checkB_zero vars).1 h1).2
      have hp := ((checkB_zero patch).1 h2).2
      rcases putL_spec patch vars _ rfl hv hp with ⟨hf, h⟩ | h
      · exact Or.inr ⟨h1, h2, hf, put_fit h1 h2 hf⟩
      · refine Or.inl ?_
        unfold put
        rw [if_neg (by simp [h1]), if_neg (by simp [h2])]
        exact h
    · refine Or.inl ?_
      unfold put
      rw [if_neg (by simp [h1]), if_pos h2]
      exact ⟨rfl, h2⟩
  · refine Or.inl ?_
    unfold put
    rw [if_pos h1]
    exact ⟨rfl, h1⟩
theorem upd_kn {vars p : List Bind} (hv : (vars.map Bind.nm).Nodup) (hf : Fit p vars) {o : Bind} (ho : o ∈ vars) : (upd p o).kn = o.kn := by
  unfold upd
  cases h : findB p o.nm with
  | none => rfl
  | some b =>
    obtain ⟨hb, e⟩ := findB_some h
    obtain ⟨o', ho', eo⟩ := List.mem_map.1 (hf b hb)
    obtain ⟨i, hi⟩ := List.mem_iff_getElem?.1 ho
    obtain ⟨j, hj⟩ := List.mem_iff_getElem?.1 ho'
    have e1 : o'.nm = b.nm := congrArg Prod.fst eo
    have eij : i = j := nodup_at hv (x := o.nm) (by rw [List.getElem?_map, hi]; rfl) (by rw [List.getElem?_map, hj, ← e, ← e1]; rfl)
    subst eij
    rw [hi] at hj
    obtain rfl := Option.some.inj hj
    exact eo.symm
theorem upd_kns {vars p : List Bind} (hv : (vars.map Bind.nm).Nodup) (hf : Fit p vars) : (vars.map (upd p)).map Bind.kn = vars.map Bind.kn := by
  rw [List.map_map]
  exact List.map_congr_left fun o ho => upd_kn hv hf ho
theorem upd_nms (vars p : List Bind) : (vars.map (upd p)).map Bind.nm = vars.map Bind.nm := by
  rw [List.map_map]
  exact List.map_congr_left fun o _ => upd_nm p o
theorem upd_fine {vars p : List Bind} (h1 : ∀ b ∈ vars, b.fine = true) (h2 : ∀ b ∈ p, b.fine = true) : ∀ b ∈ vars.map (upd p), b.fine = true := fun b hb => by
  obtain ⟨o, ho, rfl⟩ := List.mem_map.1 hb
  unfold upd
  cases h : findB p o.nm with
  | none => exact h1 o ho
  | some c => exact h2 c (findB_some h).1
theorem checkB_upd {vars p : List Bind} (h1 : checkB vars = 0) (h2 : checkB p = 0) : checkB (vars.map (upd p)) = 0 := by
  rw [checkB_zero] at *
  exact ⟨upd_fine h1.1 h2.1, by rw [upd_nms]; exact h1.2⟩
/-- what is patched again with the same stays -/
theorem put_twice {vars p : List Bind} (h1 : checkB vars = 0) (h2 : checkB p = 0) (hf : Fit p vars) : put (vars.map (upd p)) p = (vars.map (upd p), 0) := by
  have hv := ((checkB_zero vars).1 h1).2
  have := put_fit (checkB_upd h1 h2) h2 (show Fit p (vars.map (upd p)) from fun c hc => by rw [upd_kns hv hf]; exact hf c hc)
  rw [this, List.map_map]
  refine congrArg (fun l => (l, (0 : Int))) (List.map_congr_left fun o _ => upd_upd p o)
theorem findB_isSome : ∀ (l : List Bind) (x : List UInt8), (findB l x).isSome = decide (x ∈ l.map Bind.nm)
  | [], x => rfl
  | b :: r, x => by
    unfold findB
    by_cases h : b.nm = x
    · rw [if_pos h]; simp [h]
    · rw [if_neg h, findB_isSome r x]
      have : ¬ x = b.nm := fun e => h e.symm
      simp [this]
theorem findB_upd (vars p : List Bind) (x : List UInt8) : (findB (vars.map (upd p)) x).isSome = (findB vars x).isSome := by
  rw [findB_isSome, findB_isSome, upd_nms]
/-- the binds of p whose names q has not -/
def lone (p q : List Bind) : List Bind := p.filter fun b => (findB q b.nm).isNone
theorem lone_snoc (p q : List Bind) (b : Bind) : lone (p ++ [b]) q = lone p q ++ if (findB q b.nm).isNone then [b] else [] := by
  unfold lone
  rw [List.filter_append]
  congr 1
  cases h : (findB q b.nm).isNone <;> simp [h]
theorem upd_both (p q : List Bind) (o : Bind) : upd (lone p q ++ q) o = upd q (upd p o) := by
  rw [upd_def q (upd p o), upd_nm, upd_def (lone p q ++ q) o, findB_append, upd_def p o]
  unfold lone
  cases h : findB q o.nm with
  | some c =>
    rw [findB_filter_out _ _ p fun b _ e => by rw [e, h]; rfl]
    rfl
  | none =>
    rw [findB_filter_in _ _ p fun b _ e => by rw [e, h]; rfl]
    cases findB p o.nm <;> rfl
theorem nodup_both {p q : List Bind} (h1 : (p.map Bind.nm).Nodup) (h2 : (q.map Bind.nm).Nodup) : ((lone p q ++ q).map Bind.nm).Nodup := by
  rw [List.map_append, List.nodup_append]
  refine ⟨?_, h2, fun a ha b hb e => ?_⟩
  · exact List.Nodup.sublist (List.Sublist.map _ List.filter_sublist) h1
  · obtain ⟨c, hc, ec⟩ := List.mem_map.1 ha
    obtain ⟨d, hd, ed⟩ := List.mem_map.1 hb
    have := (List.mem_filter.1 hc).2
    rw [Option.isNone_iff_eq_none] at this
    exact findB_none.1 this d hd (by rw [ed, ec, e])
/-- two patches one behind the other are the one patched with the other -/
theorem put_both {vars p q : List Bind} (h1 : checkB vars = 0) (h2 : checkB p = 0) (h3 : checkB q = 0) (hf : Fit p vars) (hg : Fit q (vars.map (upd p))) :
    put vars (lone p q ++ q) = ((vars.map (upd p)).map (upd q), 0) := by
  have hv := ((checkB_zero vars).1 h1).2
  rw [show Fit q (vars.map (upd p)) = (∀ c ∈ q, c.kn ∈ (vars.map (upd p)).map Bind.kn) from rfl, upd_kns hv hf] at hg
  have hp := (checkB_zero p).1 h2
  have hq := (checkB_zero q).1 h3
  have hb : checkB (lone p q ++ q) = 0 := (checkB_zero _).2 ⟨fun b hb => by
    rcases List.mem_append.1 hb with h | h
    · exact hp.1 b (List.mem_filter.1 h).1
    · exact hq.1 b h, nodup_both hp.2 hq.2⟩
  rw [put_fit h1 hb fun c hc => by
    rcases List.mem_append.1 hc with h | h
    · exact hf c (List.mem_filter.1 h).1
    · exact hg c h]
  rw [List.map_map]
  exact congrArg (fun l => (l, (0 : Int))) (List.map_congr_left fun o _ => upd_both p q o)
end V
open V
namespace V
/-- the first place of a name, or -1 -/
def idxI : List Bind → List UInt8 → Int
  | [], _ => -1
  | b :: r, x => if b.nm = x then 0 else if idxI r x < 0 then -1 else idxI r x + 1
theorem idxI_hit : ∀ (l : List Bind) (x : List UInt8) (k : Nat) (b : Bind), l[k]? = some b → b.nm = x → (∀ c ∈ l.take k, c.nm ≠ x) → idxI l x = k ∧ findB l x = some b
  | [], _, _, _, h, _, _ => by simp at h
  | c :: r, x, 0, b, h, e, _ => by
    obtain rfl : c = b := by simpa using h
    unfold idxI findB
    rw [if_pos e, if_pos e]; exact ⟨rfl, rfl⟩
  | c :: r, x, k + 1, b, h, e, hm => by
    have hc : ¬ c.nm = x := hm c (by simp)
    obtain ⟨h1, h2⟩ := idxI_hit r x k b (by simpa using h) e fun d hd => hm d (by simp [hd])
    unfold idxI findB
    rw [if_neg hc, if_neg hc, h1, if_neg (by omega)]
    exact ⟨by omega, h2⟩
theorem idxI_miss : ∀ (l : List Bind) (x : List UInt8), (∀ c ∈ l, c.nm ≠ x) → idxI l x = -1 ∧ findB l x = none
  | [], _, _ => ⟨rfl, rfl⟩
  | c :: r, x, hm => by
    obtain ⟨h1, h2⟩ := idxI_miss r x fun d hd => hm d (List.mem_cons_of_mem _ hd)
    unfold idxI findB
    rw [if_neg (hm c (by simp)), if_neg (hm c (by simp)), h1, if_pos (by omega)]
    exact ⟨rfl, h2⟩
/-- what Find answers -/
def findV (l : List Bind) (x : List UInt8) : Val × Bool := match findB l x with | some b => (b.v, true) | none => (⟨0, 0, false, ⟨#[]⟩⟩, false)
theorem idxI_cases (l : List Bind) (x : List UInt8) : (idxI l x = -1 ∧ findV l x = (⟨0, 0, false, ⟨#[]⟩⟩, false)) ∨ ∃ (k : Nat) (h : k < l.length), idxI l x = k ∧ findV l x = (l[k].v, true) := by
  by_cases hm : ∀ c ∈ l, c.nm ≠ x
  · refine Or.inl ⟨(idxI_miss l x hm).1, ?_⟩
    unfold findV; rw [(idxI_miss l x hm).2]
  · refine Or.inr ?_
    cases hf : l.findIdx? (fun b => decide (b.nm = x)) with
    | none =>
      rw [List.findIdx?_eq_none_iff] at hf
      exact absurd (fun c hc => by simpa using hf c hc) hm
    | some k =>
      rw [List.findIdx?_eq_some_iff_getElem] at hf
      obtain ⟨hk, h1, h2⟩ := hf
      obtain ⟨e1, e2⟩ := idxI_hit l x k l[k] (List.getElem?_eq_getElem hk) (by simpa using h1) fun c hc => by
        obtain ⟨j, hj, rfl⟩ := List.getElem_of_mem hc
        rw [List.length_take] at hj
        rw [List.getElem_take]
        simpa using h2 j (by omega)
      refine ⟨k, hk, e1, ?_⟩
      unfold findV; rw [e2]
end V
theorem bytes_ne {a b : ByteArray} (h : a.data.toList ≠ b.data.toList) : (a.toList == b.toList) = false := by
  rw [Lib.toList_data, Lib.toList_data]; exact beq_eq_false_iff_ne.2 h
theorem bytes_yes {a b : ByteArray} (h : a.data.toList = b.data.toList) : (a.toList == b.toList) = true := by
  rw [Lib.toList_data, Lib.toList_data, h]; simp
theorem bytes_ext {a b : ByteArray} (h : a.data.toList = b.data.toList) : a = b := ByteArray.ext (Array.toList_inj.1 h)
set_option maxRecDepth 100000 in
set_option maxHeartbeats 2000000 in
theorem findFn_any (x nm : ByteArray) (k : Nat) (n : Int) (b : Bool) (s : ByteArray) (B : Nat) (w : World) (hB : B < w.heap.size) (hc : w.cell? ⟨B, 0, none⟩ = some (.string nm)) :
    Calls Tryd.prog 57 #[.agg #[.string x, .int .u8 k, .int .i64 n, .bool b, .string s], .pointer (some ⟨B, 0, none⟩)] w fun e w' => e = .returned (.bool (x.toList == nm.toList)) ∧ Below w.heap.size w w' := by
  have hc1 : (w.alloc (.cells #[.string x, .int .u8 k, .int .i64 n, .bool b, .string s] 43)).cell? ⟨B, 0, none⟩ = some (.string nm) := by
    rw [World.cell?_alloc_lt _ _ _ hB]; exact hc
  have HB := hid ((Below.refl w.heap.size w).alloc (Nat.le_refl _) (.cells #[.string x, .int .u8 k, .int .i64 n, .bool b, .string s] 43))
  go_enter Tryd.func57, Tryd.ntmps57
  go_wp2_with fail
  go_ret
  exact ⟨rfl, HB.out⟩
set_option maxRecDepth 100000 in
set_option maxHeartbeats 4000000 in
theorem index_any (bs : List Bind) (sv : Value) (nm : ByteArray) (B : Nat) (w : World) (hin : BIn w bs sv) (hB : B < w.heap.size) (hc : w.cell? ⟨B, 0, none⟩ = some (.string nm)) (hl : bs.length ≤ 10000000000000) :
    Calls Tryd.prog 56 #[sv, .func (.func 57) #[] #[.pointer (some ⟨B, 0, none⟩)]] w fun e w' => e = .returned (.int .i64 (idxI bs nm.data.toList)) ∧ Below w.heap.size w w' := by
  obtain ⟨n, hn⟩ : ∃ n, bs.length = n := ⟨_, rfl⟩
  obtain ⟨xa, ca, hsv⟩ := hin.shape
  rw [hn] at hsv hl
  subst hsv
  have HIN := hid hin
  have HN := hid hn
  have HC := hid hc
  clear hin hn hc
  go_enter Tryd.func56, Tryd.ntmps56
  go_wp2_with fail
  go_loopw [8] (fun i wr => ∃ (k : Nat), k ≤ n ∧ i = .int .i64 k ∧ Hid (Below w.heap.size w wr) ∧ Hid (∀ c ∈ bs.take k, c.nm ≠ nm.data.toList)) (fun i _ => n - (intOf i).toNat)
  case atStart => exact ⟨0, by omega, rfl, Below.refl _ _, fun c hc => by simp at hc⟩
  case round =>
    obtain ⟨k, hk, rfl, hb, hI⟩ := hrel
    by_cases hlt : k < n
    · have hl0 : decide ((k : Int) < (n : Int)) = true := by simp; omega
      have hkp : k < bs.length := by have := HN.out; omega
      obtain ⟨b, o, c2, hsv, hbl, c0, c1, c2, c3, c4⟩ := HIN.out.cells hkp
      rw [HN.out] at hsv
      simp only [Value.slice.injEq, true_and] at hsv
      obtain ⟨rfl, rfl⟩ := hsv
      rw [← hb.out.cell (p := ⟨b, _, none⟩) hbl] at c0 c1 c2 c3 c4
      have hk0 : (0 : Int) ≤ (k : Int) := by omega
      have hk1 : (k : Int) < (n : Int) := by omega
      have hwr := hb.out.size
      have hget : bs[k]? = some bs[k] := List.getElem?_eq_getElem hkp
      have htk : bs.take (k + 1) = bs.take k ++ [bs[k]] := List.take_succ_eq_append_getElem hkp
      obtain ⟨p, hp⟩ : ∃ p, bs[k] = p := ⟨_, rfl⟩
      rw [hp] at c0 c1 c2 c3 c4 hget htk
      obtain ⟨x, kk, nn, bb, ss⟩ := p
      simp only at c0 c1 c2 c3 c4
      have cF := findFn_any x nm kk nn bb ss B wr (by omega) (by rw [hb.out.cell (p := ⟨B, 0, none⟩) hB]; exact HC.out)
      have HT := hid (p := bs.take (k + 1) = _) htk
      have HGT := hid (p := bs[k]? = _) hget
      clear hp htk hget hkp
      by_cases hx : x.data.toList = nm.data.toList
      · rw [bytes_yes hx] at cF
        have HE := hid (idxI_hit bs nm.data.toList k _ HGT.out hx hI.out).1
        clear hx hI
        go_wp2_with fail
        refine cF.mono ?_
        rintro e w1 ⟨rfl, b1⟩
        have HB2 := hid (hb.out.trans (b1.mono hwr))
        clear b1 cF
        go_wp2_with fail
        go_ret
        exact ⟨ret_i (a := (k : Int)) HE.out.symm, HB2.out⟩
      · rw [bytes_ne hx] at cF
        have HI2 : Hid (∀ c ∈ bs.take (k + 1), c.nm ≠ nm.data.toList) := by
          show ∀ c ∈ bs.take (k + 1), _
          rw [HT.out]
          intro c hc
          rcases List.mem_append.1 hc with h | h
          · exact hI.out c h
          · rw [List.mem_singleton.1 h]; exact hx
        clear hx hI
        go_wp2_with fail
        refine cF.mono ?_
        rintro e w1 ⟨rfl, b1⟩
        have HB2 := hid (hb.out.trans (b1.mono hwr))
        clear b1 cF
        go_wp2_with fail
        go_roundw
        case rel => exact ⟨k + 1, by omega, by go_num, HB2, HI2⟩
        case measure => simp [intOf]; omega
    · have hl0 : decide ((k : Int) < (n : Int)) = false := by simp; omega
      have HE := hid (idxI_miss bs nm.data.toList (by have := hI.out; rw [List.take_of_length_le (by have := HN.out; omega)] at this; exact this)).1
      clear hI
      go_wp2_with fail
      go_ret
      exact ⟨ret_i (a := -1) HE.out.symm, hb.out⟩
set_option maxRecDepth 100000 in
set_option maxHeartbeats 4000000 in
theorem find_any (bs : List Bind) (sv : Value) (nm : ByteArray) (w : World) (hin : BIn w bs sv) (hl : bs.length ≤ 10000000000000) :
    Calls Tryd.prog 22 #[sv, .string nm] w fun e w' => (∃ k n b s q, findV bs nm.data.toList = (⟨k, n, b, s⟩, q) ∧ e = .returned (.tuple #[.agg #[.int .u8 k, .int .i64 n, .bool b, .string s], .bool q])) ∧ Below w.heap.size w w' := by

  have HB := hid (((Below.refl w.heap.size w).alloc (Nat.le_refl _) (.cells #[.string nm] 9)).alloc (by simp) (.cells #[.int .u8 0, .int .i64 0, .bool false, .string ⟨#[]⟩] 23))
  have hin1 := hin.below HB.out
  have hr : ((w.alloc (.cells #[.string nm] 9)).alloc (.cells #[.int .u8 0, .int .i64 0, .bool false, .string ⟨#[]⟩] 23)).heap[w.heap.size + 1]? = some (.cells #[.int .u8 0, .int .i64 0, .bool false, .string ⟨#[]⟩] 23 (0, 0)) := by
    have := heap_alloc_new (w.alloc (.cells #[.string nm] 9)) (.cells #[.int .u8 0, .int .i64 0, .bool false, .string ⟨#[]⟩] 23)
    simpa using this
  have hs : w.heap.size + 1 < ((w.alloc (.cells #[.string nm] 9)).alloc (.cells #[.int .u8 0, .int .i64 0, .bool false, .string ⟨#[]⟩] 23)).heap.size := by simp
  have cI := index_any bs sv nm w.heap.size _ hin1 (by omega) (by rw [World.cell?_alloc_lt _ _ _ (by simp)]; simp) hl
  have HR := hid hr
  rcases idxI_cases bs nm.data.toList with ⟨h1, h2⟩ | ⟨k, hk, h1, h2⟩
  · rw [h1] at cI
    have H2 := hid h2
    clear hin hin1 h1 h2 hr
    go_enter Tryd.func22, Tryd.ntmps22
    go_wp2_with fail
    refine cI.mono ?_
    rintro e w1 ⟨rfl, b1⟩
    have h4 := (b1.block _ hs).trans HR.out
    obtain ⟨r0, r1, r2, r3⟩ := row4 h4
    obtain ⟨q0, q1, q2, q3⟩ := free4 h4
    have HB2 := hid (HB.out.trans (b1.mono (by omega)))
    have H4 := hid h4
    clear b1 cI h4 hs HR
    go_wp2_with fail
    exact bodyPost_ret (v := .tuple #[.agg #[.int .u8 0, .int .i64 0, .bool false, .string ⟨#[]⟩], .bool false]) (results_pair rfl _ _ (w.heap.size + 1) 23 _ (0, 0) _ (.bool false) rfl (row4_set H4.out (.int .u8 0) (.int .i64 0) (.bool false) (.string ⟨#[]⟩)) (by rfl) Tryd.underlying23 rfl infoValue) rfl ⟨⟨_, _, _, _, _, H2.out, rfl⟩, below4_set HB2.out (by omega) _ _ _ _⟩
  · rw [h1] at cI
    have H2 := hid h2
    obtain ⟨b, o, c2, hsv, hbl, c0, c1, c2, c3, c4⟩ := hin.cells hk
    obtain ⟨p, hp⟩ : ∃ p, bs[k] = p := ⟨_, rfl⟩
    rw [hp] at c0 c1 c2 c3 c4 H2
    obtain ⟨n, hn⟩ : ∃ n, bs.length = n := ⟨_, rfl⟩
    rw [hn] at hk hl hsv
    subst hsv
    obtain ⟨x, kk, nn, bb, ss⟩ := p
    simp only at c0 c1 c2 c3 c4 H2
    have hk0 : (0 : Int) ≤ (k : Int) := by omega
    have hk1 : (k : Int) < (n : Int) := by omega
    have hk2 : decide ((k : Int) < 0) = false := by simp
    clear hin hin1 h1 h2 hp hr
    go_enter Tryd.func22, Tryd.ntmps22
    go_wp2_with fail
    refine cI.mono ?_
    rintro e w1 ⟨rfl, b1⟩
    have h4 := (b1.block _ hs).trans HR.out
    obtain ⟨r0, r1, r2, r3⟩ := row4 h4
    obtain ⟨q0, q1, q2, q3⟩ := free4 h4
    have HB2 := hid (HB.out.trans (b1.mono (by omega)))
    have H4 := hid h4
    rw [← HB2.out.cell (p := ⟨b, _, none⟩) hbl] at c0 c1 c2 c3 c4
    clear b1 cI h4 hs HR
    go_wp2_with fail
    exact bodyPost_ret (v := .tuple #[.agg #[.int .u8 kk, .int .i64 nn, .bool bb, .string ss], .bool true]) (results_pair rfl _ _ (w.heap.size + 1) 23 _ (0, 0) _ (.bool true) rfl (row4_set H4.out (.int .u8 kk) (.int .i64 nn) (.bool bb) (.string ss)) (by rfl) Tryd.underlying23 rfl infoValue) rfl ⟨⟨_, _, _, _, _, H2.out, rfl⟩, below4_set HB2.out (by omega) _ _ _ _⟩
namespace V
def sameB (v u : Val) : Bool := (v.k : Int) == (u.k : Int) && (v.n == u.n && (v.b == u.b && v.s.toList == u.s.toList))
end V
set_option maxRecDepth 100000 in
theorem same_any (k k' : Nat) (n n' : Int) (b b' : Bool) (s s' : ByteArray) (w : World) :
    Calls Tryd.prog 36 #[.agg #[.int .u8 k, .int .i64 n, .bool b, .string s], .agg #[.int .u8 k', .int .i64 n', .bool b', .string s']] w fun e w' => e = .returned (.bool (sameB ⟨k, n, b, s⟩ ⟨k', n', b', s'⟩)) ∧ Below w.heap.size w w' := by
  have hE := eql_value k k' n n' b b' s s'
  obtain ⟨q, hq⟩ : ∃ q, sameB ⟨k, n, b, s⟩ ⟨k', n', b', s'⟩ = q := ⟨_, rfl⟩
  rw [hq]
  have hE' : ∀ W : World, (binOp .eql 23 (.agg #[.int .u8 k, .int .i64 n, .bool b, .string s]) (.agg #[.int .u8 k', .int .i64 n', .bool b', .string s'])).run Tryd.prog W = .ok (.bool q) W := by
    intro W; rw [← hq]; exact hE W
  have hB := hid (grown2 w (.cells #[.int .u8 k, .int .i64 n, .bool b, .string s] 23) (.cells #[.int .u8 k', .int .i64 n', .bool b', .string s'] 23))
  clear hE hq
  go_enter Tryd.func36, Tryd.ntmps36
  go_wp2_with fail
  go_ret
  exact ⟨rfl, hB.out⟩
theorem quiet_lit {P : Program} {C : World → Prop} {id : Nat} {Q : Exit → Act → World → Prop} {a : Act} {w : World} {l : List Oper} (hm : P.follows .mixedOrders = true) (hB : Region.lexB .any l.toArray = true) (hC : C w.drew)
    (h : wpQuiet P l.toArray C (fun a' => ∀ w', C w' → Q .normal a' w') l a) : (Code.region id l.toArray true).wp P Q a w :=
  wp_region_quiet (C := C) hm hB hC (by simpa using h)
theorem quiet_val {P : Program} {C : World → Prop} {o : Oper} {a : Act} {K : Act → Prop} {x : Value} (h : ∀ v, C v → (execOp a.eval o).run P v = .ok (.value x) v) (k : K (a.put o.dst x)) : o.quiet P a C K :=
  ⟨x, fun v hC => by unfold Oper.quietAt; rw [h v hC]; exact ⟨rfl, rfl⟩, k⟩
theorem quiet_call {P : Program} {C : World → Prop} {o : Oper} {a : Act} {K : Act → Prop} {x : Value} {f : FuncId} {args : Array Value} (h : ∀ v, C v → (execOp a.eval o).run P v = .ok (.enter f args) v)
    (c : ∀ v, C v → Calls P f args v fun e w'' => e = .returned x ∧ C w'') (k : K (a.put o.dst x)) : o.quiet P a C K :=
  ⟨x, fun v hC => by unfold Oper.quietAt; rw [h v hC]; exact ⟨rfl, c v hC⟩, k⟩
theorem sameB_refl (v : Val) : sameB v v = true := by simp [sameB]
set_option maxRecDepth 100000 in
set_option maxHeartbeats 8000000 in
theorem lsame_yes (bs : List Bind) (sa sb : Value) (w : World) (ha : BIn w bs sa) (hb : BIn w bs sb) (hl : bs.length ≤ 10000000000000) :
    Calls Tryd.prog 41 #[sa, sb] w fun e w' => e = .returned (.bool true) ∧ Below w.heap.size w w' := by
  obtain ⟨n, hn⟩ : ∃ n, bs.length = n := ⟨_, rfl⟩
  obtain ⟨xa, ca, hsa⟩ := ha.shape
  obtain ⟨xb, cb, hsb⟩ := hb.shape
  rw [hn] at hsa hsb hl
  subst hsa hsb
  have HA := hid ha
  have HB := hid hb
  have HN := hid hn
  clear hn ha hb
  go_enter Tryd.func41, Tryd.ntmps41
  go_wp2_with fail
  go_loopw [5] (fun i wr => ∃ (k : Nat), k ≤ n ∧ i = .int .i64 k ∧ Hid (Below w.heap.size w wr)) (fun i _ => n - (intOf i).toNat)
  case atStart => exact ⟨0, by omega, rfl, Below.refl _ _⟩
  case round =>
    obtain ⟨k, hk, rfl, hb⟩ := hrel
    by_cases hlt : k < n
    · have hl0 : decide ((k : Int) < (n : Int)) = true := by simp; omega
      have hkp : k < bs.length := by have := HN.out; omega
      obtain ⟨b, o, _, hsv, hbl, c0, c1, c2, c3, c4⟩ := HA.out.cells hkp
      rw [HN.out] at hsv
      simp only [Value.slice.injEq, true_and] at hsv
      obtain ⟨rfl, rfl⟩ := hsv
      obtain ⟨b', o', _, hsv, hbl', d0, d1, d2, d3, d4⟩ := HB.out.cells hkp
      rw [HN.out] at hsv
      simp only [Value.slice.injEq, true_and] at hsv
      obtain ⟨rfl, rfl⟩ := hsv
      have hk0 : (0 : Int) ≤ (k : Int) := by omega
      have hk1 : (k : Int) < (n : Int) := by omega
      obtain ⟨p, hp⟩ : ∃ p, bs[k] = p := ⟨_, rfl⟩
      rw [hp] at c0 c1 c2 c3 c4 d0 d1 d2 d3 d4
      clear hp hkp
      obtain ⟨x, kk, nn, bb, ss⟩ := p
      simp only at c0 c1 c2 c3 c4 d0 d1 d2 d3 d4
      have cS := fun X => same_any kk kk nn nn bb bb ss ss X
      rw [sameB_refl] at cS
      have t0 : (x.toList != x.toList) = false := by simp
      go_wp2_with fail
      refine quiet_lit (C := fun w' => Hid (Below w.heap.size w w')) (by kernel_rfl) (by kernel_rfl) (hid hb.out.drew) ?_
      repeat (first
        | go_big_quiet_skip
        | (go_big_quiet_want
           refine quiet_val (x := ?_) (fun vv hC => ?_) ?_
           rotate_left
           · skip
             have x0 := (hC.out.cell (p := ⟨b, _, none⟩) hbl).trans c0
             have x1 := (hC.out.cell (p := ⟨b, _, none⟩) hbl).trans c1
             have x2 := (hC.out.cell (p := ⟨b, _, none⟩) hbl).trans c2
             have x3 := (hC.out.cell (p := ⟨b, _, none⟩) hbl).trans c3
             have x4 := (hC.out.cell (p := ⟨b, _, none⟩) hbl).trans c4
             have y0 := (hC.out.cell (p := ⟨b', _, none⟩) hbl').trans d0
             have y1 := (hC.out.cell (p := ⟨b', _, none⟩) hbl').trans d1
             have y2 := (hC.out.cell (p := ⟨b', _, none⟩) hbl').trans d2
             have y3 := (hC.out.cell (p := ⟨b', _, none⟩) hbl').trans d3
             have y4 := (hC.out.cell (p := ⟨b', _, none⟩) hbl').trans d4
             clear hC
             go_simp
             with_reducible rfl
           go_big_quiet_on
           try simp only [Act.put, List.setIfInBounds_toArray, List.set_cons_zero, List.set_cons_succ])
        | (go_big_quiet_want
           refine quiet_call (f := ?_) (args := ?_) (x := ?_) (fun vv hC => ?_) (fun vv hC => ?_) ?_
           rotate_left 3
           · go_simp
             first | with_reducible rfl | (apply And.intro <;> with_reducible rfl)
           · first
               | (go_at_call 36; with_reducible refine (cS _).mono ?_; rintro e ww ⟨rfl, bb⟩; refine And.intro ?_ (hid (hC.out.trans (bb.mono hC.out.size))); with_reducible rfl)
           go_big_quiet_on
           try simp only [Act.put, List.setIfInBounds_toArray, List.set_cons_zero, List.set_cons_succ]))
      refine wpQuiet_nil ?_
      intro vq hq
      clear hb
      go_wp2_with fail
      go_roundw
      case rel => exact ⟨k + 1, by omega, by go_num, hq⟩
      case measure => simp [intOf]; omega
    · have hl0 : decide ((k : Int) < (n : Int)) = false := by simp; omega
      go_wp2_with fail
      go_ret
      exact ⟨rfl, hb.out⟩
theorem run_app_binds (ty : TypeId) (B : Nat) (bs q : List Bind) (v xv : Value) (w : World) (hown : BOwn B bs v w) (hq : BIn w q xv) (hlen : (bs.length + q.length) * 56 ≤ 140737488355328) (hbase : B ≤ w.heap.size) :
    ∃ v' w', (Builtin.append_ #[33, 33] ty #[v, xv]).run Tryd.prog w = .ok v' w' ∧ BOwn B (bs ++ q) v' w' ∧ w.grownBy w' v.ownBlock := by
  obtain ⟨i0, hi, hz0, hz1, hz2⟩ := info_parts infoBind
  have some_ : ∀ (ad : Addr) (c : Nat), xv = .slice (some ad) q.length c → (∀ j u, (rowB q)[j]? = some u → w.cell? (ad.add j) = some u) →
      ∃ v' w', (Builtin.append_ #[33, 33] ty #[v, xv]).run Tryd.prog w = .ok v' w' ∧ BOwn B (bs ++ q) v' w' ∧ w.grownBy w' v.ownBlock := fun ad c hx hc => by
    obtain ⟨v', w', h1, h2, h3, _⟩ := run_append_own (P := Tryd.prog) w B 33 ty 43 i0 _ 5 56 Tryd.underlying33 hi hz0 hz1 hz2 rfl (by decide) v bs.length (rowB bs) hown ad q.length c (rowB q) (rowB_length q) hc (oneCells q) (by unfold maxLen; omega) hlen hbase
    rw [hx]
    refine ⟨v', w', h1, ?_, h3⟩
    unfold BOwn
    rw [rowB_append, List.length_append]
    exact h2
  rcases hq with ⟨rfl, a, c, rfl, h0⟩ | ⟨hp, b, o, c, rfl, _, hc⟩
  · cases a with
    | none =>
      obtain rfl := h0 rfl
      refine ⟨v, w, run_append_owned_none (P := Tryd.prog) w B 33 ty 43 i0 5 Tryd.underlying33 hi v bs.length (rowB bs) hown, by rw [List.append_nil]; exact hown, ⟨rfl, rfl, rfl, Nat.le_refl _, fun _ _ _ => rfl⟩⟩
    | some a => exact some_ a c rfl fun j u hj => by simp [rowB] at hj
  · refine some_ ⟨b, o, none⟩ c rfl fun j u hj => ?_
    have e : (⟨b, o, none⟩ : Addr).add j = ⟨b, o + j, none⟩ := by cases j <;> simp [Addr.add]
    rw [e]; exact hc j u hj
theorem wpList_app_binds {ops : Array Oper} {rest : List Oper} {o : Oper} {a : Act} {Q : Exit → Act → World → Prop} {w : World} (hgd : o.guard = none) (s x : Operand)
    (ho : o.op = .call { callee := .builtin .append, args := #[s, x], argTypes := #[33, 33] }) (B : Nat) (bs q : List Bind) (v xv : Value) (hs : a.eval s = v) (hown : BOwn B bs v w) (hx : a.eval x = xv) (hq : BIn w q xv)
    (hlen : (bs.length + q.length) * 56 ≤ 140737488355328) (hbase : B ≤ w.heap.size) (h : ∀ v' w', BOwn B (bs ++ q) v' w' → w.grownBy w' v.ownBlock → wpList Tryd.prog ops Q rest (a.put o.dst v') w') : wpList Tryd.prog ops Q (o :: rest) a w :=
  wpList_plain hgd fun K hK => by
    obtain ⟨v', w', hr, h2, h3⟩ := run_app_binds o.type B bs q v xv w hown hq hlen hbase
    unfold Oper.wp execOp
    simp only [ho, resolve, invoke, builtin, Sem.run_bind, Sem.run_pure, Result.andThen_ok, List.map_toArray, List.map_cons, List.map_nil, hs, hx, hr]
    exact hK _ _ (h v' w' h2 h3)
/-- one bind in a block of its own -/
theorem BIn_one (w : World) (p : Bind) (g : Nat) (h : w.heap[g]? = some (.cells #[.string p.name, .int .u8 p.v.k, .int .i64 p.v.n, .bool p.v.b, .string p.v.s] 43 (0, 0))) : BIn w [p] (.slice (some ⟨g, 0, none⟩) 1 1) := by
  refine Or.inr ⟨by simp, g, 0, 1, rfl, by simp, fun j u hj => ?_⟩
  rw [Nat.zero_add]
  have hj' : (#[Value.string p.name, .int .u8 p.v.k, .int .i64 p.v.n, .bool p.v.b, .string p.v.s] : Array Value)[j]? = some u := by
    rw [← hj]; simp [rowB, Bind.cells]
  rw [cell_of_row w g j _ _ (0, 0) h]; exact hj'
end Go.Proofs.YtohdifffdgoaaaaDoor
