/- The attributes as they stand, in a row: is one of a name among them? -/
import Derived.Test.YtakplnceiibmlaaGreatDoorMVal
namespace Go.Proofs.YtakplnceiibmlaaGreatDoor
open Go.RowKit
open Go.Lib (hid)
theorem toList_inj {a b : ByteArray} : a.toList = b.toList ↔ a = b := by
  constructor
  · intro h
    have h' : a.data.toList = b.data.toList := by simpa [ByteArray.toList_eq] using h
    obtain ⟨⟨x⟩⟩ := a
    obtain ⟨⟨y⟩⟩ := b
    simp only at h'
    rw [h']
  · intro h; rw [h]
theorem ba_inj {a b : List UInt8} : X.ba a = X.ba b ↔ a = b := by
  constructor
  · intro h
    have := congrArg (fun z : ByteArray => z.data.toList) h
    simpa [X.ba] using this
  · intro h; rw [h]
set_option maxRecDepth 100000 in
theorem same_any (X : Nat) (W : World) (a b : ByteArray) (x : Int) (v a1 b1 : ByteArray) (h0 : W.cell? ⟨X, 0, none⟩ = some (.string a1)) (h1 : W.cell? ⟨X, 1, none⟩ = some (.string b1)) :
    Calls Tryz.prog 56 #[.agg #[.string a, .string b, .int .i64 x, .string v], .pointer (some ⟨X, 0, none⟩)] W fun en W' => en = .returned (.bool (decide (a = a1 ∧ b = b1))) ∧ Below W.heap.size W W' := by
  have hX : X < W.heap.size := Lib.lt_of_cell h0
  obtain ⟨w1, hw1⟩ : ∃ w1, W.alloc (.cells #[.string a, .string b, .int .i64 x, .string v] 111) = w1 := ⟨_, rfl⟩
  have HB : Hid (Below W.heap.size W w1) := by show Below _ _ _; rw [← hw1]; exact (Below.refl _ W).alloc (Nat.le_refl _) _
  have hr : w1.heap[W.heap.size]? = some (.cells #[.string a, .string b, .int .i64 x, .string v] 111 (0, 0)) := by rw [← hw1]; exact heap_alloc_new W _
  obtain ⟨d0, d1, -, -⟩ := row4 hr
  have c0 : w1.cell? ⟨X, 0, none⟩ = some (.string a1) := by rw [HB.out.cell (p := ⟨X, 0, none⟩) hX]; exact h0
  have c1 : w1.cell? ⟨X, 1, none⟩ = some (.string b1) := by rw [HB.out.cell (p := ⟨X, 1, none⟩) hX]; exact h1
  have HW := hid hw1
  clear hw1 h0 h1 hr hX
  go_enter Tryz.func56, Tryz.ntmps56
  go_upto_region 1 with fail
  rw [HW.out]
  go_wp2_with fail
  · rename_i g1 g2
    rw [toList_inj] at g1 g2
    rw [decide_eq_true (⟨g1, g2⟩ : a = a1 ∧ b = b1)]
    go_ret
    exact ⟨rfl, HB.out⟩
  · rename_i g1 g2
    rw [toList_inj] at g1 g2
    rw [decide_eq_false (fun h : a = a1 ∧ b = b1 => g2 h.2)]
    go_ret
    exact ⟨rfl, HB.out⟩
  · rename_i g1
    rw [toList_inj] at g1
    rw [decide_eq_false (fun h : a = a1 ∧ b = b1 => g1 h.1)]
    go_ret
    exact ⟨rfl, HB.out⟩
/-- the cells of an attribute as it stands -/
def rawC (s : ByteArray) (x : X.Raw) : List Value := [.string (X.ba x.pre), .string (X.ba x.loc), .int .i64 ((s.size - x.n : Nat) : Int), .string (X.ba x.val)]
def rawsC (s : ByteArray) (l : List X.Raw) : List Value := l.flatMap (rawC s)
theorem rawsC_length (s : ByteArray) : ∀ l : List X.Raw, (rawsC s l).length = l.length * 4
  | [] => rfl
  | x :: r => by
    have := rawsC_length s r
    unfold rawsC at this ⊢
    rw [List.flatMap_cons, List.length_append, this, List.length_cons]
    show 4 + _ = _
    omega
theorem rawsC_snoc (s : ByteArray) (l : List X.Raw) (x : X.Raw) : rawsC s (l ++ [x]) = rawsC s l ++ rawC s x := by
  unfold rawsC
  rw [List.flatMap_append]
  simp
theorem rawsC_at (s : ByteArray) : ∀ (l : List X.Raw) (j : Nat) (x : X.Raw), l[j]? = some x → ∀ i u, (rawC s x)[i]? = some u → (rawsC s l)[j * 4 + i]? = some u
  | y :: r, 0, x, h, i, u, hu => by
    simp only [List.getElem?_cons_zero, Option.some.injEq] at h
    subst h
    unfold rawsC
    rw [List.flatMap_cons, Nat.zero_mul, Nat.zero_add, List.getElem?_append_left (by have := (List.getElem?_eq_some_iff.1 hu).1; exact this)]
    exact hu
  | y :: r, j + 1, x, h, i, u, hu => by
    have := rawsC_at s r j x (by simpa using h) i u hu
    unfold rawsC at this ⊢
    rw [List.flatMap_cons, List.getElem?_append_right (by show 4 ≤ _; omega)]
    show (List.flatMap (rawC s) r)[(j + 1) * 4 + i - 4]? = _
    rw [show (j + 1) * 4 + i - 4 = j * 4 + i by omega]
    exact this
/-- a slice holds these attributes -/
def RawsIn (w : World) (s : ByteArray) (l : List X.Raw) (v : Value) : Prop :=
  (l = [] ∧ ∃ a c, v = .slice a 0 c) ∨ ∃ g c, v = .slice (some ⟨g, 0, none⟩) l.length c ∧ g < w.heap.size ∧ ∀ j x, l[j]? = some x → ∀ i u, (rawC s x)[i]? = some u → w.cell? ⟨g, j * 4 + i, none⟩ = some u
theorem RawsIn.below {w w' : World} {s : ByteArray} {l : List X.Raw} {v : Value} (h : RawsIn w s l v) (hb : Below w.heap.size w w') : RawsIn w' s l v := by
  rcases h with h | ⟨g, c, h1, h2, h3⟩
  · exact Or.inl h
  · exact Or.inr ⟨g, c, h1, Nat.lt_of_lt_of_le h2 hb.size, fun j x hj i u hu => by rw [hb.cell (p := ⟨g, j * 4 + i, none⟩) h2]; exact h3 j x hj i u hu⟩
theorem RawsIn.of {w : World} {s : ByteArray} {l : List X.Raw} {v : Value} {B : Nat} (h : w.ownsRow B 111 4 v l.length (rawsC s l)) : RawsIn w s l v := by
  have hc := fun g (hg : v.ownBlock = some g) => World.ownsRow.cells h hg
  have hlt := World.ownsRow.lt h
  rcases h.2 with ⟨rfl, h0⟩ | ⟨g, cap, cur, rfl, _, hgr, hcap, _⟩
  · exact Or.inl ⟨List.eq_nil_of_length_eq_zero h0, none, 0, rfl⟩
  · refine Or.inr ⟨g, cap, rfl, (hlt g rfl).2, fun j x hj i u hu => ?_⟩
    have := hc g rfl (j * 4 + i) u (rawsC_at s l j x hj i u hu)
    have e : (⟨g, 0, none⟩ : Addr).add (j * 4 + i) = ⟨g, j * 4 + i, none⟩ := by
      unfold Addr.add
      split <;> simp_all
    rw [e] at this
    exact this
/-- is one of this name among them? -/
def hasName (l : List X.Raw) (nm : List UInt8 × List UInt8) : Bool := l.any (fun y => decide (y.pre = nm.1 ∧ y.loc = nm.2))
set_option maxRecDepth 100000 in
set_option maxHeartbeats 2000000 in
theorem indexFunc_any (s : ByteArray) (l : List X.Raw) (v : Value) (Y : Nat) (nm : List UInt8 × List UInt8) (hl : l.length ≤ 1000) (W : World) (h : RawsIn W s l v) (h0 : W.cell? ⟨Y, 0, none⟩ = some (.string (X.ba nm.1))) (h1 : W.cell? ⟨Y, 1, none⟩ = some (.string (X.ba nm.2))) :
    Calls Tryz.prog 73 #[v, .func (.func 56) #[] #[.pointer (some ⟨Y, 0, none⟩)]] W fun en W' => (∃ j : Int, en = .returned (.int .i64 j) ∧ decide (0 ≤ j) = hasName l nm) ∧ Below W.heap.size W W' := by
  have hX : Y < W.heap.size := Lib.lt_of_cell h0
  obtain ⟨n, hn⟩ : ∃ n, l.length = n := ⟨_, rfl⟩
  have hv : ∃ a c, v = .slice a n c := by
    rcases h with ⟨rfl, a, c, rfl⟩ | ⟨g, c, rfl, _⟩
    · exact ⟨a, c, by rw [← hn]; rfl⟩
    · exact ⟨_, c, by rw [← hn]⟩
  obtain ⟨ad, cp, rfl⟩ := hv
  have HV := hid h
  have HX := hid hX
  have H0 := hid h0
  have H1 := hid h1
  have HN := hid hn
  have hcall : ∀ args w, (callFunc 56 args).run Tryz.prog w = .ok (.enter 56 args) w := enters_of Tryz.func56 (by kernel_rfl) rfl
  rw [hn] at hl
  clear h h0 h1 hX hn
  go_enter Tryz.func73, Tryz.ntmps73
  go_wp2_with fail
  go_loopw [8, 5] (fun vi v5 wr => ∃ (i : Nat), vi = .int .i64 i ∧ Hid (i ≤ n ∧ hasName (l.take i) nm = false) ∧ Hid (Below W.heap.size W wr)) (fun vi _ _ => n - (intOf vi).toNat)
  case atStart => exact ⟨0, rfl, hid ⟨Nat.zero_le _, rfl⟩, hid (Below.refl _ W)⟩
  case round =>
    obtain ⟨i, rfl, HI, HB⟩ := hrel
    rcases Nat.lt_or_ge i n with hlt | hge
    · have t0 : decide ((i : Int) < (n : Int)) = true := decide_eq_true (by omega)
      have hv2 := HV.out
      obtain ⟨g, rfl, hg, hc⟩ : ∃ g, ad = some ⟨g, 0, none⟩ ∧ g < W.heap.size ∧ ∀ j x, l[j]? = some x → ∀ i u, (rawC s x)[i]? = some u → W.cell? ⟨g, j * 4 + i, none⟩ = some u := by
        rcases hv2 with ⟨rfl, _⟩ | ⟨g, c, he, h2, h3⟩
        · have := HN.out; simp at this; omega
        · simp only [Value.slice.injEq] at he; exact ⟨g, he.1, h2, h3⟩
      have hlt' : i < l.length := by rw [HN.out]; exact hlt
      obtain ⟨x, hx⟩ : ∃ x, l[i]? = some x := ⟨_, List.getElem?_eq_getElem hlt'⟩
      have cc := fun k u (hu : (rawC s x)[k]? = some u) => (HB.out.cell (p := ⟨g, i * 4 + k, none⟩) hg).trans (hc i x hx k u hu)
      have d0 := cc 0 _ rfl
      have d1 := cc 1 _ rfl
      have d2 := cc 2 _ rfl
      have d3 := cc 3 _ rfl
      have cS := same_any Y wr (X.ba x.pre) (X.ba x.loc) ((s.size - x.n : Nat) : Int) (X.ba x.val) _ _ ((HB.out.cell (p := ⟨Y, 0, none⟩) HX.out).trans H0.out) ((HB.out.cell (p := ⟨Y, 1, none⟩) HX.out).trans H1.out)
      have e4 : i * 4 + 0 = i * 4 := Nat.add_zero _
      rw [e4] at d0
      have hb0 : decide (X.ba x.pre = X.ba nm.1 ∧ X.ba x.loc = X.ba nm.2) = decide (x.pre = nm.1 ∧ x.loc = nm.2) := decide_eq_decide.2 (by rw [ba_inj, ba_inj])
      rw [hb0] at cS
      have hb : Hid (hasName (l.take (i + 1)) nm = decide (x.pre = nm.1 ∧ x.loc = nm.2)) := by
        show _ = _
        have := HI.out.2
        unfold hasName at this ⊢
        rw [List.take_add_one, List.any_append, this, hx]
        simp
      have hb2 : Hid (decide (x.pre = nm.1 ∧ x.loc = nm.2) = true → hasName l nm = true) := by
        intro h
        unfold hasName
        rw [List.any_eq_true]
        exact ⟨x, List.mem_of_getElem? hx, h⟩
      obtain ⟨b, hbe⟩ : ∃ b, decide (x.pre = nm.1 ∧ x.loc = nm.2) = b := ⟨_, rfl⟩
      rw [hbe] at cS hb hb2
      clear hv2 hc cc e4 hb0 hbe
      go_wp2_with fail
      refine cS.mono ?_
      rintro e w2 ⟨rfl, hbl⟩
      have HB2 : Hid (Below W.heap.size W w2) := HB.out.trans (hbl.mono HB.out.size)
      clear hbl cS d0 d1 d2 d3
      cases b with
      | true =>
        have HE := hid (hb2.out rfl)
        clear hb hb2
        go_wp2_with fail
        go_ret
        exact ⟨⟨i, rfl, by rw [HE.out]; exact decide_eq_true (by omega)⟩, HB2.out⟩
      | false =>
        have HE : Hid (i + 1 ≤ n ∧ hasName (l.take (i + 1)) nm = false) := ⟨hlt, hb.out⟩
        obtain ⟨i1, hi1⟩ : ∃ i1, i + 1 = i1 := ⟨_, rfl⟩
        rw [hi1] at HE
        have e1 : IntKind.i64.wrap ((i : Int) + 1) = (i1 : Int) := by rw [IntKind.wrap_i64] <;> omega
        have HM : Hid (n - i1 < n - i) := by show _ < _; omega
        clear hb hb2 hi1
        go_wp2_with fail
        go_roundw
        case rel => exact ⟨i1, rfl, HE, HB2⟩
        case measure => simpa [intOf] using HM.out
    · have t0 : decide ((i : Int) < (n : Int)) = false := decide_eq_false (by omega)
      have HE : Hid (hasName l nm = false) := by
        have := HI.out.2
        rw [List.take_of_length_le (by rw [HN.out]; exact hge)] at this
        exact this
      go_wp2_with fail
      go_ret
      exact ⟨⟨-1, rfl, by rw [HE.out]; rfl⟩, HB.out⟩
set_option maxRecDepth 100000 in
theorem containsFunc_any (s : ByteArray) (l : List X.Raw) (v : Value) (Y : Nat) (nm : List UInt8 × List UInt8) (hl : l.length ≤ 1000) (W : World) (h : RawsIn W s l v) (h0 : W.cell? ⟨Y, 0, none⟩ = some (.string (X.ba nm.1))) (h1 : W.cell? ⟨Y, 1, none⟩ = some (.string (X.ba nm.2))) :
    Calls Tryz.prog 55 #[v, .func (.func 56) #[] #[.pointer (some ⟨Y, 0, none⟩)]] W fun en W' => en = .returned (.bool (hasName l nm)) ∧ Below W.heap.size W W' := by
  have cI := indexFunc_any s l v Y nm hl W h h0 h1
  have hv : ∃ a n c, v = .slice a n c := by
    rcases h with ⟨rfl, a, c, rfl⟩ | ⟨g, c, rfl, _⟩
    · exact ⟨a, _, c, rfl⟩
    · exact ⟨_, _, c, rfl⟩
  obtain ⟨ad, n, cp, rfl⟩ := hv
  obtain ⟨b, hb⟩ : ∃ b, hasName l nm = b := ⟨_, rfl⟩
  rw [hb] at cI ⊢
  clear h h0 h1 hl hb
  go_enter Tryz.func55, Tryz.ntmps55
  go_wp2_with fail
  refine cI.mono ?_
  rintro e w2 ⟨⟨j, rfl, hj⟩, hbl⟩
  have HB := hid hbl
  clear hbl cI
  cases b
  all_goals
    go_wp2_with fail
    go_ret
    exact ⟨rfl, HB.out⟩
end Go.Proofs.YtakplnceiibmlaaGreatDoor
