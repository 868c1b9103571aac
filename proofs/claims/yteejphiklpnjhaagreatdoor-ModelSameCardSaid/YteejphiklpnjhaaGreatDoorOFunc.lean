/- The first process of an id: IndexFunc, ContainsFunc with the program's closures. -/
import Derived.Test.YteejphiklpnjhaaGreatDoorOElemH
namespace Go.Proofs.YteejphiklpnjhaaGreatDoor
set_option maxRecDepth 100000
set_option maxHeartbeats 16000000
open Go.RowKit Go.Maps
open Go.Lib (hid)
def prAt (l : List O.Pr) (id : List UInt8) : Option Nat := l.findIdx? (fun p => decide (p.id = id))
def idxV (o : Option Nat) : Int := match o with | some k => k | none => -1
theorem prAt_none {l : List O.Pr} {id : List UInt8} : prAt l id = none ↔ l.any (fun p => decide (p.id = id)) = false := by
 unfold prAt
 rw [List.findIdx?_eq_none_iff, List.any_eq_false]
 constructor
 · intro h x hx; rw [h x hx]; simp
 · intro h x hx; simpa using h x hx
theorem prAt_some {l : List O.Pr} {id : List UInt8} {k : Nat} (h : prAt l id = some k) : ∃ p, l[k]? = some p ∧ l.find? (fun p => decide (p.id = id)) = some p := by
 unfold prAt at h
 have h2 := List.findIdx?_eq_some_iff_getElem.1 h
 obtain ⟨hk, h3, h4⟩ := h2
 refine ⟨l[k], List.getElem?_eq_getElem hk, ?_⟩
 rw [List.find?_eq_some_iff_getElem]
 exact ⟨h3, k, hk, rfl, fun j hj => by simpa using h4 j hj⟩
theorem prAt_step {l : List O.Pr} {id : List UInt8} {i : Nat} {x : O.Pr} (hx : l[i]? = some x) (h : (l.take i).any (fun p => decide (p.id = id)) = false) (hi : x.id = id) : prAt l id = some i := by
 unfold prAt
 rw [List.findIdx?_eq_some_iff_getElem]
 obtain ⟨hlt, hxe⟩ := List.getElem?_eq_some_iff.1 hx
 refine ⟨hlt, by rw [hxe]; simpa using hi, fun j hj => ?_⟩
 rw [List.any_eq_false] at h
 have := h l[j] (by rw [List.mem_take_iff_getElem]; exact ⟨j, by omega, rfl⟩)
 simpa using this
theorem twice_same (Y : Nat) (W : World) (a nm : ByteArray) (va iv : Value) (b : ByteArray) (h0 : W.cell? ⟨Y, 0, none⟩ = some (.string b)) :
  Calls Tryz.prog 66 #[.agg #[.string a, .string nm, va, iv], .pointer (some ⟨Y, 0, none⟩)] W fun en W' => en = .returned (.bool (decide (a = b))) ∧ Below W.heap.size W W' := by
 have hX : Y < W.heap.size := Lib.lt_of_cell h0
 obtain ⟨w1, hw1⟩ : ∃ w1, W.alloc (.cells #[.string a, .string nm, va, iv] 106) = w1 := ⟨_, rfl⟩
 have HB : Hid (Below W.heap.size W w1) := by show Below _ _ _; rw [← hw1]; exact (Below.refl _ W).alloc (Nat.le_refl _) _
 have hr : w1.heap[W.heap.size]? = some (.cells #[.string a, .string nm, va, iv] 106 (0, 0)) := by rw [← hw1]; exact heap_alloc_new W _
 obtain ⟨d0, -, -, -⟩ := row4 hr
 have c0 : w1.cell? ⟨Y, 0, none⟩ = some (.string b) := by rw [HB.out.cell (p := ⟨Y, 0, none⟩) hX]; exact h0
 obtain ⟨q, hq⟩ : ∃ q, decide (a = b) = q := ⟨_, rfl⟩
 have hq2 : (a.toList == b.toList) = q := by
  rw [← hq]
  by_cases h : a = b
  · rw [h, decide_eq_true rfl]; exact beq_self_eq_true _
  · rw [decide_eq_false h]; exact beq_eq_false_iff_ne.2 (fun e => h (toList_inj.1 e))
 rw [hq]
 have HW := hid hw1
 clear hw1 h0 hr hX hq
 go_enter Tryz.func66, Tryz.ntmps66
 go_upto_region 1 with fail
 rw [HW.out]
 go_wp2_with fail
 go_ret
 exact ⟨rfl, HB.out⟩
theorem twice_index {P : Nat → Prop} (l : List O.Pr) (v : Value) (Y : Nat) (id : List UInt8) (hl : l.length ≤ 100000) (W : World) (h : PrsIn W P l v) (hP : ∀ b, P b → b < W.heap.size) (h0 : W.cell? ⟨Y, 0, none⟩ = some (.string (X.ba id))) :
  Calls Tryz.prog 92 #[v, .func (.func 66) #[] #[.pointer (some ⟨Y, 0, none⟩)]] W fun en W' => en = .returned (.int .i64 (idxV (prAt l id))) ∧ Below W.heap.size W W' := by
 have hX : Y < W.heap.size := Lib.lt_of_cell h0
 obtain ⟨n, hn⟩ : ∃ n, l.length = n := ⟨_, rfl⟩
 obtain ⟨ad, cp, rfl⟩ := h.shape
 rw [hn] at h hl ⊢
 obtain ⟨RES, hRES⟩ : ∃ r, idxV (prAt l id) = r := ⟨_, rfl⟩
 rw [hRES]
 have HRES := hid hRES
 have HV := hid h
 have HX := hid hX
 have H0 := hid h0
 have HN := hid hn
 have HP := hid hP
 have hcall : ∀ args w, (callFunc 66 args).run Tryz.prog w = .ok (.enter 66 args) w := enters_of Tryz.func66 (by kernel_rfl) rfl
 clear h h0 hX hn hP hRES
 go_enter Tryz.func92, Tryz.ntmps92
 go_wp2_with fail
 go_loopw [8, 5] (fun vi v5 wr => ∃ (i : Nat), vi = .int .i64 i ∧ Hid (i ≤ n ∧ (l.take i).any (fun p => decide (p.id = id)) = false) ∧ Hid (Below W.heap.size W wr)) (fun vi _ _ => n - (intOf vi).toNat)
 case atStart => exact ⟨0, rfl, hid ⟨Nat.zero_le _, rfl⟩, hid (Below.refl _ W)⟩
 case round =>
  obtain ⟨i, rfl, HI, HB⟩ := hrel
  rcases Nat.lt_or_ge i n with hlt | hge
  · have t0 : decide ((i : Int) < (n : Int)) = true := decide_eq_true (by omega)
    obtain ⟨g, cs, rfl, hg, hcs, hc⟩ : ∃ g cs, ad = some ⟨g, 0, none⟩ ∧ P g ∧ Prs W P l cs ∧ ∀ j u, cs[j]? = some u → W.cell? ⟨g, j, none⟩ = some u := by
      rcases HV.out with ⟨h1, _⟩ | ⟨g, c, cs, he, h2, _, h4, h5⟩
      · have := HN.out; rw [h1] at this; simp at this; omega
      · simp only [Value.slice.injEq] at he; exact ⟨g, cs, he.1, h2, h4, h5⟩
    have hgl := HP.out g hg
    have hlt' : i < l.length := by rw [HN.out]; exact hlt
    obtain ⟨x, hx⟩ : ∃ x, l[i]? = some x := ⟨_, List.getElem?_eq_getElem hlt'⟩
    obtain ⟨ds, ⟨vv, iv, rfl, -, -⟩, hat⟩ := Prs.at l cs i x hcs hx
    have cc := fun k u (hu : [Value.string (X.ba x.id), .string (X.ba x.nm), vv, iv][k]? = some u) => (HB.out.cell (p := ⟨g, i * 4 + k, none⟩) hgl).trans (hc _ _ (hat k u hu))
    have d0 := cc 0 _ rfl
    have d1 := cc 1 _ rfl
    have d2 := cc 2 _ rfl
    have d3 := cc 3 _ rfl
    have cS := twice_same Y wr (X.ba x.id) (X.ba x.nm) vv iv _ ((HB.out.cell (p := ⟨Y, 0, none⟩) HX.out).trans H0.out)
    have e4 : i * 4 + 0 = i * 4 := Nat.add_zero _
    rw [e4] at d0
    have hb0 : decide (X.ba x.id = X.ba id) = decide (x.id = id) := decide_eq_decide.2 ba_inj
    rw [hb0] at cS
    have hb : Hid (decide (x.id = id) = false → (l.take (i + 1)).any (fun p => decide (p.id = id)) = false) := by
      intro h
      have := HI.out.2
      rw [List.take_add_one, List.any_append, this, hx]
      simpa using h
    have hb2 : Hid (decide (x.id = id) = true → RES = i) := by
      intro h
      rw [← HRES.out, prAt_step hx HI.out.2 (of_decide_eq_true h)]
      rfl
    obtain ⟨b, hbe⟩ : ∃ b, decide (x.id = id) = b := ⟨_, rfl⟩
    rw [hbe] at cS hb hb2
    clear hc cc e4 hb0 hbe hat hcs hgl hx
    go_wp2_with fail
    refine cS.mono ?_
    rintro e w2 ⟨rfl, hbl⟩
    have HB2 : Hid (Below W.heap.size W w2) := HB.out.trans (hbl.mono HB.out.size)
    clear hbl cS d0 d1 d2 d3
    cases b with
    | true =>
      have HE := hid (hb2.out rfl)
      clear hb hb2
      go_wp2_with fail
      go_ret
      exact ⟨by rw [HE.out]; rfl, HB2.out⟩
    | false =>
      have HE : Hid (i + 1 ≤ n ∧ (l.take (i + 1)).any (fun p => decide (p.id = id)) = false) := ⟨hlt, hb.out rfl⟩
      obtain ⟨i1, hi1⟩ : ∃ i1, i + 1 = i1 := ⟨_, rfl⟩
      rw [hi1] at HE
      have e1 : IntKind.i64.wrap ((i : Int) + 1) = (i1 : Int) := by rw [IntKind.wrap_i64] <;> omega
      have HM : Hid (n - i1 < n - i) := by show _ < _; omega
      clear hb hb2 hi1
      go_wp2_with fail
      go_roundw
      case rel => exact ⟨i1, rfl, HE, HB2⟩
      case measure => simpa [intOf] using HM.out
  · have t0 : decide ((i : Int) < (n : Int)) = false := decide_eq_false (by omega)
    have HE : Hid (RES = -1) := by
      show _ = _
      have := HI.out.2
      rw [List.take_of_length_le (by rw [HN.out]; exact hge)] at this
      rw [← HRES.out, prAt_none.2 this]
      rfl
    go_wp2_with fail
    go_ret
    exact ⟨by rw [HE.out]; rfl, HB.out⟩
theorem twice_any {P : Nat → Prop} (l : List O.Pr) (v : Value) (Y : Nat) (id : List UInt8) (hl : l.length ≤ 100000) (W : World) (h : PrsIn W P l v) (hP : ∀ b, P b → b < W.heap.size) (h0 : W.cell? ⟨Y, 0, none⟩ = some (.string (X.ba id))) :
  Calls Tryz.prog 65 #[v, .func (.func 66) #[] #[.pointer (some ⟨Y, 0, none⟩)]] W fun en W' => en = .returned (.bool (l.any (fun p => decide (p.id = id)))) ∧ Below W.heap.size W W' := by
 have c := twice_index l v Y id hl W h hP h0
 obtain ⟨q, hq⟩ : ∃ q, l.any (fun p => decide (p.id = id)) = q := ⟨_, rfl⟩
 obtain ⟨j, hj⟩ : ∃ j, idxV (prAt l id) = j := ⟨_, rfl⟩
 have hge : decide (0 ≤ j) = q := by
  rw [← hj, ← hq]
  rcases hp : prAt l id with _ | k
  · rw [prAt_none.1 hp]; rfl
  · obtain ⟨p, h1, h2⟩ := prAt_some hp
    rw [decide_eq_true (by show (0 : Int) ≤ (k : Int); omega)]
    symm
    rw [List.any_eq_true]
    exact ⟨p, List.mem_of_getElem? h1, List.find?_some (p := fun p : O.Pr => decide (p.id = id)) h2⟩
 rw [hj] at c
 rw [hq]
 clear hq hj h hP h0 hl
 go_enter Tryz.func65, Tryz.ntmps65
 go_wp2_with fail
 refine c.mono ?_
 rintro e w1 ⟨rfl, hb⟩
 go_wp2_with fail
 go_ret
 exact ⟨rfl, hb⟩
end Go.Proofs.YteejphiklpnjhaaGreatDoor
