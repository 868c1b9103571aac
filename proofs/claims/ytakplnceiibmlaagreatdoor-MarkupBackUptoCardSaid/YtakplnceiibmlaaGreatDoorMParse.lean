/- Parse: a text's element, or the place and the error. -/
import Derived.Test.YtakplnceiibmlaaGreatDoorMCatch
import Derived.Test.YtakplnceiibmlaaGreatDoorVQuiet
namespace Go.Proofs.YtakplnceiibmlaaGreatDoor
open Go.RowKit Go.Maps
open Go.Lib (hid)
def zero7 : Array Value := #[.string ⟨#[]⟩, .string ⟨#[]⟩, .slice none 0 0, .slice none 0 0, .string ⟨#[]⟩, .int .i64 0, .int .i64 0]
/-- how Parse ends -/
def ParseOf (W0 : World) (s : ByteArray) (x : Except (Nat × Int) X.E) (en : Ending) (W : World) : Prop :=
  (∃ e cs, x = .ok e ∧ en = .returned (.tuple #[.agg cs.toArray, .agg #[.int .i64 0, .int .i64 0], .int .i64 0]) ∧ e.Has W (OwnN W W0.heap.size none) cs ∧ Below W0.heap.size W0 W) ∨
  (∃ n er, x = .error (n, er) ∧ en = .returned (.tuple #[.agg zero7, posV s (s.size - n), .int .i64 er]) ∧ Below W0.heap.size W0 W)
/-- Parse's own four blocks behind H blocks: the text, the element, the place, the error -/
structure PB (W : World) (H : Nat) (s : ByteArray) (w : World) : Prop where
  h : W.heap.size = H
  b : Below H W w
  s : w.heap[H]? = some (.cells #[.string s] 9 (0, 0))
  n : ∃ x0 x1 x2 x3 x4 x5 x6, w.heap[H + 1]? = some (.cells #[x0, x1, x2, x3, x4, x5, x6] 28 (0, 0))
  p : ∃ p0 p1, w.heap[H + 2]? = some (.cells #[p0, p1] 26 (0, 0))
  e : ∃ e0, w.heap[H + 3]? = some (.cells #[e0] 29 (0, 0))
section
variable {W w w' : World} {H : Nat} {s : ByteArray}
theorem PB.lt (h : PB W H s w) : H + 3 < w.heap.size := by obtain ⟨e0, he⟩ := h.e; exact Go.lt_of_block he
theorem PB.grown (h : PB W H s w) {Y : Nat} (g : w.grownBy w' (some Y)) (hY : H + 4 ≤ Y) : PB W H s w' := by
  obtain ⟨x0, x1, x2, x3, x4, x5, x6, hn⟩ := h.n
  obtain ⟨p0, p1, hp⟩ := h.p
  obtain ⟨e0, he⟩ := h.e
  have hlt := h.lt
  exact ⟨h.h, h.b.grown g (by omega) (fun k hk => by have := Option.some.inj hk; omega), (g.block H (by omega) (fun e => by have := Option.some.inj e; omega)).trans h.s, ⟨_, _, _, _, _, _, _, (g.block (H + 1) (by omega) (fun e => by have := Option.some.inj e; omega)).trans hn⟩, ⟨_, _, (g.block (H + 2) (by omega) (fun e => by have := Option.some.inj e; omega)).trans hp⟩, ⟨_, (g.block (H + 3) (by omega) (fun e => by have := Option.some.inj e; omega)).trans he⟩⟩
theorem PB.below (h : PB W H s w) (hb : Below w.heap.size w w') : PB W H s w' := by
  obtain ⟨x0, x1, x2, x3, x4, x5, x6, hn⟩ := h.n
  obtain ⟨p0, p1, hp⟩ := h.p
  obtain ⟨e0, he⟩ := h.e
  have hlt := h.lt
  exact ⟨h.h, h.b.trans (hb.mono (by omega)), (hb.block H (by omega)).trans h.s, ⟨_, _, _, _, _, _, _, (hb.block (H + 1) (by omega)).trans hn⟩, ⟨_, _, (hb.block (H + 2) (by omega)).trans hp⟩, ⟨_, (hb.block (H + 3) (by omega)).trans he⟩⟩
end
theorem run_loadErrno (w : World) (g : Nat) (v : Value) (h : w.heap[g]? = some (.cells #[v] 29 (0, 0))) : (loadVar 29 ⟨g, 0, none⟩).run Tryz.prog w = .ok v w := by
  have c := rowCell h 0
  simp only [List.getElem?_toArray, List.getElem?_cons_zero] at c
  simp [loadVar, isAgg, run_underlying Tryz.underlying29, go_sem, Result.andThen, c]
theorem results_parse (tmps : Array Value) (w : World) (H : Nat) (c7 c2 : Array Value) (e0 : Value) (h2 : tmps.getD 2 undef = .pointer (some ⟨H + 1, 0, none⟩)) (h3 : tmps.getD 3 undef = .pointer (some ⟨H + 2, 0, none⟩)) (h4 : tmps.getD 4 undef = .pointer (some ⟨H + 3, 0, none⟩))
    (hn : w.heap[H + 1]? = some (.cells c7 28 (0, 0))) (s7 : c7.size = 7) (hp : w.heap[H + 2]? = some (.cells c2 26 (0, 0))) (s2 : c2.size = 2) (he : w.heap[H + 3]? = some (.cells #[e0] 29 (0, 0))) :
    (results Tryz.f7 tmps).run Tryz.prog w = .ok (.tuple #[.agg c7, .agg c2, e0]) w := by
  have l1 := run_loadVar_row (P := Tryz.prog) w (H + 1) 28 28 c7 (0, 0) _ hn Tryz.underlying28 rfl (by rw [s7]; exact sizeNode)
  have l2 := run_loadVar_row (P := Tryz.prog) w (H + 2) 26 26 c2 (0, 0) _ hp Tryz.underlying26 rfl (by rw [s2]; exact infoPos)
  have l3 := run_loadErrno w (H + 3) e0 he
  have h2' : tmps[2]?.getD undef = .pointer (some ⟨H + 1, 0, none⟩) := by simpa using h2
  have h3' : tmps[3]?.getD undef = .pointer (some ⟨H + 2, 0, none⟩) := by simpa using h3
  have h4' : tmps[4]?.getD undef = .pointer (some ⟨H + 3, 0, none⟩) := by simpa using h4
  simp [results, Tryz.results7, h2', h3', h4', asAddr, l1, l2, l3, Result.andThen]
def deferredP (H : Nat) : Deferred := { target := .fn (.func 16) #[.pointer (some ⟨H, 0, none⟩), .pointer (some ⟨H + 1, 0, none⟩), .pointer (some ⟨H + 2, 0, none⟩), .pointer (some ⟨H + 3, 0, none⟩)], args := #[] }
/-- a failure that is caught -/
theorem leave_fail {W w : World} {H n : Nat} {er : Int} {s : ByteArray} {tmps : Array Value} {RES : Except (Nat × Int) X.E} (h2 : tmps.getD 2 undef = .pointer (some ⟨H + 1, 0, none⟩)) (h3 : tmps.getD 3 undef = .pointer (some ⟨H + 2, 0, none⟩)) (h4 : tmps.getD 4 undef = .pointer (some ⟨H + 3, 0, none⟩)) (hX : RES = .error (n, er)) (hs : s.size ≤ 1000000000000) (hP : PB W H s w) :
    Leaves Tryz.prog Tryz.f7 tmps (ParseOf W s RES) [deferredP H] (.panicking (chain er ((s.size - n : Nat) : Int))) w := by
  obtain ⟨x0, x1, x2, x3, x4, x5, x6, hn⟩ := hP.n
  obtain ⟨p0, p1, hp⟩ := hP.p
  obtain ⟨e0, he⟩ := hP.e
  refine leaves_cons (f := 16) (args := #[.pointer (some ⟨H, 0, none⟩), .pointer (some ⟨H + 1, 0, none⟩), .pointer (some ⟨H + 2, 0, none⟩), .pointer (some ⟨H + 3, 0, none⟩)]) (by simp) (by simp [go_sem]) ?_
  refine (catch_fail H (s.size - n) er s x0 x1 x2 x3 x4 x5 x6 p0 p1 e0 w hP.s hn hp he (by omega) hs).mono ?_
  rintro e u' w' ⟨rfl, rfl, g1, g2, g3, g4⟩
  refine ⟨_, results_parse tmps w' H _ _ _ h2 h3 h4 g1 rfl g2 rfl g3, Or.inr ⟨n, er, hX, rfl, ?_⟩⟩
  rw [hP.h]; exact hP.b.trans g4
/-- an element that is handed back -/
theorem leave_ok {W w : World} {H : Nat} {s : ByteArray} {tmps : Array Value} {RES : Except (Nat × Int) X.E} (h2 : tmps.getD 2 undef = .pointer (some ⟨H + 1, 0, none⟩)) (h3 : tmps.getD 3 undef = .pointer (some ⟨H + 2, 0, none⟩)) (h4 : tmps.getD 4 undef = .pointer (some ⟨H + 3, 0, none⟩)) {e : X.E} {cs : List Value} (hX : RES = .ok e)
    (hn : w.heap[H + 1]? = some (.cells cs.toArray 28 (0, 0))) (s7 : cs.toArray.size = 7) (hp : w.heap[H + 2]? = some (.cells #[.int .i64 0, .int .i64 0] 26 (0, 0))) (he : w.heap[H + 3]? = some (.cells #[.int .i64 0] 29 (0, 0))) (hH : W.heap.size = H) (hh : e.Has w (OwnN w H none) cs) (hb : Below H W w) :
    Leaves Tryz.prog Tryz.f7 tmps (ParseOf W s RES) [deferredP H] .returning w := by
  refine leaves_cons (f := 16) (args := #[.pointer (some ⟨H, 0, none⟩), .pointer (some ⟨H + 1, 0, none⟩), .pointer (some ⟨H + 2, 0, none⟩), .pointer (some ⟨H + 3, 0, none⟩)]) (by simp) (by simp [go_sem]) ?_
  refine (catch_idle H w).mono ?_
  rintro e u' w' ⟨rfl, rfl, rfl⟩
  refine ⟨_, results_parse tmps w' H _ _ _ h2 h3 h4 hn s7 hp rfl he, Or.inl ⟨_, cs, hX, rfl, ?_, ?_⟩⟩
  · rw [hH]; exact hh
  · rw [hH]; exact hb
theorem PB.setN {W w w' : World} {H : Nat} {s : ByteArray} (h : PB W H s w) (g : w.grownBy w' (some (H + 1))) {x0 x1 x2 x3 x4 x5 x6 : Value} (hn : w'.heap[H + 1]? = some (.cells #[x0, x1, x2, x3, x4, x5, x6] 28 (0, 0))) : PB W H s w' := by
  obtain ⟨p0, p1, hp⟩ := h.p
  obtain ⟨e0, he⟩ := h.e
  have hlt := h.lt
  exact ⟨h.h, h.b.grown g (by omega) (fun k hk => by have := Option.some.inj hk; omega), (g.block H (by omega) (fun e => by have := Option.some.inj e; omega)).trans h.s, ⟨_, _, _, _, _, _, _, hn⟩, ⟨_, _, (g.block (H + 2) (by omega) (fun e => by have := Option.some.inj e; omega)).trans hp⟩, ⟨_, (g.block (H + 3) (by omega) (fun e => by have := Option.some.inj e; omega)).trans he⟩⟩
theorem start_at (s : ByteArray) : ∃ p0 : Nat, p0 ≤ s.size ∧ X.start s.data.toList = rest s p0 ∧ ((X.head1.isPrefixOf (rest s 0) = true ∧ p0 = 21) ∨ (X.head1.isPrefixOf (rest s 0) = false ∧ X.head2.isPrefixOf (rest s 0) = true ∧ p0 = 38) ∨ (X.head1.isPrefixOf (rest s 0) = false ∧ X.head2.isPrefixOf (rest s 0) = false ∧ p0 = 0)) := by
  have hr : rest s 0 = s.data.toList := rfl
  unfold X.start
  rw [hr]
  cases h1 : X.head1.isPrefixOf s.data.toList
  · cases h2 : X.head2.isPrefixOf s.data.toList
    · exact ⟨0, Nat.zero_le _, rfl, Or.inr (Or.inr ⟨rfl, rfl, rfl⟩)⟩
    · have := X.pre_len h2
      rw [← Lib.size_eq] at this
      exact ⟨38, this, rfl, Or.inr (Or.inl ⟨rfl, rfl, rfl⟩)⟩
  · have := X.pre_len h1
    rw [← Lib.size_eq] at this
    exact ⟨21, this, rfl, Or.inl ⟨rfl, rfl⟩⟩
theorem pb_first (s : ByteArray) (W : World) : PB W W.heap.size s ((((W.alloc (.cells #[.string s] 9)).alloc (.cells #[.string ⟨#[]⟩, .string ⟨#[]⟩, .slice none 0 0, .slice none 0 0, .string ⟨#[]⟩, .int .i64 0, .int .i64 0] 28)).alloc (.cells #[.int .i64 0, .int .i64 0] 26)).alloc (.cells #[.int .i64 0] 29)) := by
  obtain ⟨wa, ha⟩ : ∃ wa, W.alloc (.cells #[.string s] 9) = wa := ⟨_, rfl⟩
  have sa : wa.heap.size = W.heap.size + 1 := by rw [← ha]; simp
  have na : wa.heap[W.heap.size]? = some (.cells #[.string s] 9 (0, 0)) := by rw [← ha]; exact heap_alloc_new W _
  have ba : Below W.heap.size W wa := by rw [← ha]; exact (Below.refl _ W).alloc (Nat.le_refl _) _
  rw [ha]
  obtain ⟨wb, hb⟩ : ∃ wb, wa.alloc (.cells #[.string ⟨#[]⟩, .string ⟨#[]⟩, .slice none 0 0, .slice none 0 0, .string ⟨#[]⟩, .int .i64 0, .int .i64 0] 28) = wb := ⟨_, rfl⟩
  have sb : wb.heap.size = W.heap.size + 2 := by rw [← hb]; simp [sa]
  have nb : wb.heap[W.heap.size + 1]? = some (.cells #[.string ⟨#[]⟩, .string ⟨#[]⟩, .slice none 0 0, .slice none 0 0, .string ⟨#[]⟩, .int .i64 0, .int .i64 0] 28 (0, 0)) := by rw [← hb, ← sa]; exact heap_alloc_new wa _
  have bb : Below wa.heap.size wa wb := by rw [← hb]; exact (Below.refl _ wa).alloc (Nat.le_refl _) _
  rw [hb]
  obtain ⟨wc, hc⟩ : ∃ wc, wb.alloc (.cells #[.int .i64 0, .int .i64 0] 26) = wc := ⟨_, rfl⟩
  have sc : wc.heap.size = W.heap.size + 3 := by rw [← hc]; simp [sb]
  have nc : wc.heap[W.heap.size + 2]? = some (.cells #[.int .i64 0, .int .i64 0] 26 (0, 0)) := by rw [← hc, ← sb]; exact heap_alloc_new wb _
  have bc : Below wb.heap.size wb wc := by rw [← hc]; exact (Below.refl _ wb).alloc (Nat.le_refl _) _
  rw [hc]
  obtain ⟨wd, hd⟩ : ∃ wd, wc.alloc (.cells #[.int .i64 0] 29) = wd := ⟨_, rfl⟩
  have nd : wd.heap[W.heap.size + 3]? = some (.cells #[.int .i64 0] 29 (0, 0)) := by rw [← hd, ← sc]; exact heap_alloc_new wc _
  have bd : Below wc.heap.size wc wd := by rw [← hd]; exact (Below.refl _ wc).alloc (Nat.le_refl _) _
  rw [hd]
  exact ⟨rfl, ((ba.trans (bb.mono (by omega))).trans (bc.mono (by omega))).trans (bd.mono (by omega)), (bd.block _ (by omega)).trans ((bc.block _ (by omega)).trans ((bb.block _ (by omega)).trans na)), ⟨_, _, _, _, _, _, _, (bd.block _ (by omega)).trans ((bc.block _ (by omega)).trans nb)⟩, ⟨_, _, (bd.block _ (by omega)).trans nc⟩, ⟨_, nd⟩⟩
set_option maxRecDepth 100000 in
set_option maxHeartbeats 8000000 in
theorem parse_any (s : ByteArray) (hs6 : s.size ≤ 65536) (W : World) (hE : Errs W) (hT : Tabs W) :
    Calls Tryz.prog 7 #[.string s] W (ParseOf W s (X.parse s.data.toList)) := by
  have hs : s.size ≤ 1000000000000 := by omega
  obtain ⟨RES, hRES⟩ : ∃ x, X.parse s.data.toList = x := ⟨_, rfl⟩
  rw [hRES]
  obtain ⟨H, hH⟩ : ∃ H, W.heap.size = H := ⟨_, rfl⟩
  obtain ⟨w1, hw1⟩ : ∃ w1, (((W.alloc (.cells #[.string s] 9)).alloc (.cells #[.string ⟨#[]⟩, .string ⟨#[]⟩, .slice none 0 0, .slice none 0 0, .string ⟨#[]⟩, .int .i64 0, .int .i64 0] 28)).alloc (.cells #[.int .i64 0, .int .i64 0] 26)).alloc (.cells #[.int .i64 0] 29) = w1 := ⟨_, rfl⟩
  have HP1 : Hid (PB W H s w1) := by show PB _ _ _ _; rw [← hw1, ← hH]; exact pb_first s W
  have HG0 := Ground.first hE hT
  rw [hH] at HG0
  have HG := hid HG0
  obtain ⟨R, hR⟩ : ∃ R, w1.heap.size = R := ⟨_, rfl⟩
  have HR4 : Hid (H + 4 ≤ R) := by have := HP1.out.lt; show _ ≤ _; omega
  have HRH : Hid (H ≤ R) := by have := HR4.out; show _ ≤ _; omega
  obtain ⟨w2, hw2⟩ : ∃ w2, w1.alloc (.cells #[.string s, .int .i64 0, .int .i64 0] 57) = w2 := ⟨_, rfl⟩
  have hr2 : w2.heap[R]? = some (mRow s 0 0) := by rw [← hw2, ← hR]; exact heap_alloc_new w1 _
  have HR2 : Hid (Rd w2 R s 0 0 w2) := ⟨⟨rfl, rfl, rfl, Nat.le_refl _, fun _ _ _ => rfl⟩, hr2, Go.lt_of_block hr2⟩
  have HP2 : Hid (PB W H s w2) := by show PB _ _ _ _; rw [← hw2]; exact HP1.out.below ((Below.refl _ w1).alloc (Nat.le_refl _) _)
  have HW1 := hid hw1
  have HW2 := hid hw2
  have HH := hid hH
  have HRE := hid hR
  have b0 : w1.cell? ⟨H, 0, none⟩ = some (.string s) := rowCell HP1.out.s 0
  have t0 : decide ((65536 : Int) < (s.size : Int)) = false := decide_eq_false (by omega)
  have t1 : decide (65536 < s.size) = false := decide_eq_false (by omega)
  obtain ⟨p0, hp0, hst, hcase⟩ := start_at s
  have cT := take_l (k := 21) X.head1 ⟨#[60, 63, 120, 109, 108, 32, 118, 101, 114, 115, 105, 111, 110, 61, 34, 49, 46, 48, 34, 63, 62]⟩ rfl rfl HR2.out (Nat.zero_le _) hs
  clear hE hT hw1 hH HG0 hR hw2 hr2
  go_enter_defers Tryz.func7, Tryz.ntmps7
  go_upto_region 1 with fail
  rw [HW1.out, HH.out, show H + 1 + 1 + 1 = H + 3 from rfl, show H + 1 + 1 = H + 2 from rfl]
  go_upto_region 5 with fail
  rw [HW2.out, HRE.out]
  clear HW1 HW2 HH HRE b0 t0 t1
  go_wp2_with fail
  refine cT.mono ?_
  rintro e w3 (⟨g1, g2, rfl, g3⟩ | ⟨g1, rfl, g3⟩)
  · obtain rfl : p0 = 21 := by
      rcases hcase with ⟨_, h⟩ | ⟨h, _⟩ | ⟨h, _⟩
      · exact h
      · rw [g1] at h; cases h
      · rw [g1] at h; cases h
    have H3 : Hid (Rd w2 R s 21 0 w3) := g3
    have HP3 : Hid (PB W H s w3) := HP2.out.grown g3.g HR4.out
    clear g1 g2 g3 cT hcase HR2 HP2
    have HE0 : Hid (RES = match X.misc (s.size + 1) (rest s 21) with
        | .error e => .error e
        | .ok (_, l) =>
          if (![60].isPrefixOf l || [60, 33].isPrefixOf l || [60, 63].isPrefixOf l) = true then .error (X.bad l)
          else match X.elem s.data.toList 16 X.known0 0 l with
            | .error e => .error e
            | .ok ((e, _), l2) => match X.misc (s.size + 1) l2 with
              | .error e => .error e
              | .ok (_, l3) => if l3 = [] then .ok e else .error (X.bad l3)) := by
      show _ = _
      rw [← hRES, X.parse, hst, ← Lib.size_eq]
      rfl
    have cM := misc_any (s.size + 1) (by omega) H3.out.own hp0 hs (HG.out.keep HP3.out.b) HRH.out
    have HFM := hid (X.misc_fair (s.size + 1) (rest s 21))
    clear hst
    go_wp2_with fail
    refine cM.mono ?_
    rintro e w4 (⟨_, r, hx, rfl, hr⟩ | ⟨n, e, hx, rfl, hr⟩)
    rotate_left
    · have HX : Hid (RES = .error (n, e)) := by show _ = _; rw [HE0.out, hx]
      exact leave_fail rfl rfl rfl HX.out hs (HP3.out.grown hr HR4.out)
    have hsuf := (HFM.out.1 _ _ hx).1
    have hpos := rest_pos hsuf hp0
    have hre := rest_suf hsuf
    obtain ⟨u, hu⟩ : ∃ u, s.size - r.length = u := ⟨_, rfl⟩
    rw [hu] at hr hpos hre
    have hus := hpos.2
    have HE1 : Hid (RES = if (![60].isPrefixOf (rest s u) || [60, 33].isPrefixOf (rest s u) || [60, 63].isPrefixOf (rest s u)) = true then .error (X.bad (rest s u))
          else match X.elem s.data.toList 16 X.known0 0 (rest s u) with
            | .error e => .error e
            | .ok ((e, _), l2) => match X.misc (s.size + 1) l2 with
              | .error e => .error e
              | .ok (_, l3) => if l3 = [] then .ok e else .error (X.bad l3)) := by
      show _ = _
      rw [HE0.out, hx, ← hre]
    have H4 := hid (H3.out.trans hr)
    have HP4 : Hid (PB W H s w4) := HP3.out.grown hr.g HR4.out
    have cN := next_l [60] ⟨#[60]⟩ rfl H4.out.own hus
    clear hx hr hsuf hpos hre hu cM HFM HE0 H3 HP3 hp0
    cases b1 : [60].isPrefixOf (rest s u)
    · have HX : Hid (RES = .error (X.bad (rest s u))) := by show _ = _; rw [HE1.out, b1]; rfl
      rw [b1] at cN
      clear b1 HE1
      go_wp2_with fail
      refine cN.mono ?_
      rintro e w5 ⟨rfl, g3⟩
      have H5 := hid (H4.out.below g3)
      have HP5 := hid (HP4.out.below g3)
      have cB := bad_any H5.out.own hus
      clear g3 cN
      go_wp2_with fail
      refine cB.mono ?_
      rintro e w6 ⟨rfl, hbl⟩
      exact leave_fail rfl rfl rfl HX.out hs (HP5.out.below hbl)
    rw [b1] at cN HE1
    clear b1
    go_wp2_with fail
    refine cN.mono ?_
    rintro e w5 ⟨rfl, g3⟩
    have H5 := hid (H4.out.below g3)
    have HP5 := hid (HP4.out.below g3)
    clear g3 cN H4 HP4
    have cN := next_l [60, 33] ⟨#[60, 33]⟩ rfl H5.out.own hus
    cases b2 : [60, 33].isPrefixOf (rest s u)
    rotate_left
    · have HX : Hid (RES = .error (X.bad (rest s u))) := by show _ = _; rw [HE1.out, b2]; rfl
      rw [b2] at cN
      clear b2 HE1
      go_wp2_with fail
      refine cN.mono ?_
      rintro e w6 ⟨rfl, g3⟩
      have H6 := hid (H5.out.below g3)
      have HP6 := hid (HP5.out.below g3)
      have cB := bad_any H6.out.own hus
      clear g3 cN
      go_wp2_with fail
      refine cB.mono ?_
      rintro e w7 ⟨rfl, hbl⟩
      exact leave_fail rfl rfl rfl HX.out hs (HP6.out.below hbl)
    rw [b2] at cN HE1
    clear b2
    go_wp2_with fail
    refine cN.mono ?_
    rintro e w6 ⟨rfl, g3⟩
    have H6 := hid (H5.out.below g3)
    have HP6 := hid (HP5.out.below g3)
    clear g3 cN H5 HP5
    have cN := next_l [60, 63] ⟨#[60, 63]⟩ rfl H6.out.own hus
    cases b3 : [60, 63].isPrefixOf (rest s u)
    rotate_left
    · have HX : Hid (RES = .error (X.bad (rest s u))) := by show _ = _; rw [HE1.out, b3]; rfl
      rw [b3] at cN
      clear b3 HE1
      go_wp2_with fail
      refine cN.mono ?_
      rintro e w7 ⟨rfl, g3⟩
      have H7 := hid (H6.out.below g3)
      have HP7 := hid (HP6.out.below g3)
      have cB := bad_any H7.out.own hus
      clear g3 cN
      go_wp2_with fail
      refine cB.mono ?_
      rintro e w8 ⟨rfl, hbl⟩
      exact leave_fail rfl rfl rfl HX.out hs (HP7.out.below hbl)
    rw [b3] at cN HE1
    clear b3
    simp only [Bool.not_true, Bool.or_false, Bool.false_eq_true, if_false] at HE1
    go_wp2_with fail
    refine cN.mono ?_
    rintro e w7 ⟨rfl, g3⟩
    have H7 := hid (H6.out.below g3)
    have HP7 := hid (HP6.out.below g3)
    clear g3 cN H6 HP6
    have hmm := @run_makeMap Tryz.prog
    have m0 : KM (w7.alloc (.map #[] 0)) w7.heap.size 0 [] := World.ownsMap_made (H := Unit) w7 Tryz.prog 9 (plainElem Tryz.prog 9)
    obtain ⟨w8, u1, m1, t1⟩ := m0.put (by unfold maxLen; omega) ⟨#[]⟩ ⟨#[]⟩ (by decide) (by decide)
    obtain ⟨w9, u2, m2, t2⟩ := m1.put (by unfold maxLen; omega) ⟨#[120, 109, 108]⟩ ⟨#[104, 116, 116, 112, 58, 47, 47, 119, 119, 119, 46, 119, 51, 46, 111, 114, 103, 47, 88, 77, 76, 47, 49, 57, 57, 56, 47, 110, 97, 109, 101, 115, 112, 97, 99, 101]⟩ (by decide) (by decide)
    have HK9 : Hid (KM w9 w7.heap.size 2 X.known0) := m2
    have HB79 : Hid (Below w7.heap.size w7 w9) := by
      have b0 : Below w7.heap.size w7 (w7.alloc (.map #[] 0)) := (Below.refl _ w7).alloc (Nat.le_refl _) _
      exact b0.grown (t1.grown.trans t2.grown) b0.size (fun q hq => by simp at hq; omega)
    have H9 := hid (H7.out.below HB79.out)
    have HP9 := hid (HP7.out.below HB79.out)
    have HMR : Hid (w7.heap.size ≠ R) := by have := Go.lt_of_block H7.out.r; show _ ≠ _; omega
    have cE := element_any H R s hs6 HRH.out 16 0 rfl u 0 w9 w7.heap.size 2 X.known0 H9.out.own hus (by omega) (HG.out.keep HP9.out.b) HK9.out HMR.out (by omega)
    obtain ⟨M, hM⟩ : ∃ M, w7.heap.size = M := ⟨_, rfl⟩
    have HFE := hid (X.elem_fair s.data.toList 16 X.known0 0 (rest s u))
    clear m0 m1 m2 t1 t2 hM
    go_wp2_with fail
    refine cE.mono ?_
    rintro _ w10 (⟨ee, c', r, cs, hx, rfl, hh, hc', hr⟩ | ⟨n, e, hx, rfl, hr⟩)
    rotate_left
    · have HX : Hid (RES = .error (n, e)) := by show _ = _; rw [HE1.out, hx]
      exact leave_fail rfl rfl rfl HX.out hs (HP9.out.grown hr HR4.out)
    have hsuf := (HFE.out.1 _ _ hx).1
    have hpos := rest_pos hsuf hus
    have hre := rest_suf hsuf
    obtain ⟨v, hv⟩ : ∃ v, s.size - r.length = v := ⟨_, rfl⟩
    rw [hv] at hr hpos hre
    have hvs := hpos.2
    have HE2 : Hid (RES = match X.misc (s.size + 1) (rest s v) with
        | .error e => .error e
        | .ok (_, l3) => if l3 = [] then .ok ee else .error (X.bad l3)) := by
      show _ = _
      rw [HE1.out, hx, ← hre]
    obtain ⟨av, kv, rfl, hav, hkv⟩ := hh
    obtain ⟨ava, avc, rfl⟩ := hav.shape
    obtain ⟨kva, kvc, rfl⟩ := hkv.shape
    have hhas : ee.Has w10 (OwnN w10 w9.heap.size none) [.string ee.sp, .string ee.lo, .slice ava (X.E.as ee).length avc, .slice kva ee.ks.length kvc, .string ee.tx, .int .i64 ee.ln, .int .i64 ee.cl] := ⟨_, _, rfl, hav, hkv⟩
    obtain ⟨esp, hesp⟩ : ∃ z, ee.sp = z := ⟨_, rfl⟩
    obtain ⟨elo, helo⟩ : ∃ z, ee.lo = z := ⟨_, rfl⟩
    obtain ⟨etx, hetx⟩ : ∃ z, ee.tx = z := ⟨_, rfl⟩
    obtain ⟨eln, heln⟩ : ∃ z, ee.ln = z := ⟨_, rfl⟩
    obtain ⟨ecl, hecl⟩ : ∃ z, ee.cl = z := ⟨_, rfl⟩
    obtain ⟨avn, havn⟩ : ∃ z, (X.E.as ee).length = z := ⟨_, rfl⟩
    obtain ⟨kvn, hkvn⟩ : ∃ z, ee.ks.length = z := ⟨_, rfl⟩
    rw [hesp, helo, hetx, heln, hecl, havn, hkvn] at hhas ⊢
    have HHAS := hid hhas
    clear hav hkv hhas hesp helo hetx heln hecl havn hkvn
    have HP10 : Hid (PB W H s w10) := HP9.out.grown hr.g HR4.out
    have hr10 := hr.r
    have HSZ : Hid (R < w9.heap.size ∧ w9.heap.size ≤ w10.heap.size) := ⟨Go.lt_of_block H9.out.r, hr.g.size⟩
    obtain ⟨x0, x1, x2, x3, x4, x5, x6, hn10⟩ := HP10.out.n
    obtain ⟨y0, y1, y2, y3, y4, y5, y6⟩ := row7 hn10
    have f0 := rowFree hn10 0
    have f1 := rowFree hn10 1
    have f2 := rowFree hn10 2
    have f3 := rowFree hn10 3
    have f4 := rowFree hn10 4
    have f5 := rowFree hn10 5
    have f6 := rowFree hn10 6
    obtain ⟨w11, hw11⟩ : ∃ w11, st7 w10 (H + 1) (.string esp) (.string elo) (.slice ava avn avc) (.slice kva kvn kvc) (.string etx) (.int .i64 eln) (.int .i64 ecl) = w11 := ⟨_, rfl⟩
    have g11 : w10.grownBy w11 (some (H + 1)) := by rw [← hw11]; exact st7_grown _ _ _ _ _ _ _ _ _
    have HN11 : Hid (w11.heap[H + 1]? = some (.cells #[.string esp, .string elo, .slice ava avn avc, .slice kva kvn kvc, .string etx, .int .i64 eln, .int .i64 ecl] 28 (0, 0))) := by show _ = _; rw [← hw11]; exact st7_row hn10 _ _ _ _ _ _ _
    have HP11 : Hid (PB W H s w11) := HP10.out.setN g11 HN11.out
    have hr11 : w11.heap[R]? = some (mRow s v c') := (g11.block R (Go.lt_of_block hr10) (fun e => by have := Option.some.inj e; have := HR4.out; omega)).trans hr10
    have H11 : Hid (Rd w11 R s v c' w11) := ⟨⟨rfl, rfl, rfl, Nat.le_refl _, fun _ _ _ => rfl⟩, hr11, Go.lt_of_block hr11⟩
    have HFAR11 : Hid (∀ b, w9.heap.size ≤ b → b < w10.heap.size → w11.heap[b]? = w10.heap[b]?) := fun b h1 h2 => g11.block b h2 (fun e => by have := Option.some.inj e; have := HSZ.out; have := HR4.out; omega)
    have HS11 : Hid (w10.heap.size ≤ w11.heap.size) := g11.size
    have cM := misc_any (s.size + 1) (by omega) H11.out.own hvs hs (HG.out.keep HP11.out.b) HRH.out
    have HFM := hid (X.misc_fair (s.size + 1) (rest s v))
    have HW11 : Hid ((((((((w10.setCell ⟨H + 1, 0, none⟩ (.string esp)).setCell ⟨H + 1, 1, none⟩ (.string elo)).setCell ⟨H + 1, 2, none⟩ (.slice ava avn avc)).setCell ⟨H + 1, 3, none⟩ (.slice kva kvn kvc)).setCell ⟨H + 1, 4, none⟩ (.string etx)).setCell ⟨H + 1, 5, none⟩ (.int .i64 eln)).setCell ⟨H + 1, 6, none⟩ (.int .i64 ecl)) = w11) := hw11
    clear hx hr hr10 hr11 hsuf hpos hre hv cE HFE HE1 hn10 g11 hw11 HP10 H9 HP9 HB79 HK9 H7 HP7
    go_upto_region 11 with fail
    rw [HW11.out]
    clear HW11 y0 y1 y2 y3 y4 y5 y6 f0 f1 f2 f3 f4 f5 f6
    go_wp2_with fail
    refine cM.mono ?_
    rintro e w12 (⟨_, r, hx, rfl, hr⟩ | ⟨n, e, hx, rfl, hr⟩)
    rotate_left
    · have HX : Hid (RES = .error (n, e)) := by show _ = _; rw [HE2.out, hx]
      exact leave_fail rfl rfl rfl HX.out hs (HP11.out.grown hr HR4.out)
    have hsuf := (HFM.out.1 _ _ hx).1
    have hpos := rest_pos hsuf hvs
    have hre := rest_suf hsuf
    obtain ⟨x, hxx⟩ : ∃ x, s.size - r.length = x := ⟨_, rfl⟩
    rw [hxx] at hr hpos hre
    have hxs := hpos.2
    have HE3 : Hid (RES = if rest s x = [] then .ok ee else .error (X.bad (rest s x))) := by
      show _ = _
      rw [HE2.out, hx, ← hre]
    have HP12 : Hid (PB W H s w12) := HP11.out.grown hr.g HR4.out
    have HN12 : Hid (w12.heap[H + 1]? = some (.cells #[.string esp, .string elo, .slice ava avn avc, .slice kva kvn kvc, .string etx, .int .i64 eln, .int .i64 ecl] 28 (0, 0))) := (hr.g.block (H + 1) (Go.lt_of_block HN11.out) (fun e => by have := Option.some.inj e; have := HR4.out; omega)).trans HN11.out
    have HFAR12 : Hid (∀ b, w9.heap.size ≤ b → b < w10.heap.size → w12.heap[b]? = w10.heap[b]?) := fun b h1 h2 => (hr.g.block b (by have := HS11.out; omega) (fun e => by have := Option.some.inj e; have := HSZ.out; omega)).trans (HFAR11.out b h1 h2)
    have HS12 : Hid (w10.heap.size ≤ w12.heap.size) := Nat.le_trans HS11.out hr.g.size
    have H12 := hid hr
    have d1 : w12.cell? ⟨R, 1, none⟩ = some (.int .i64 x) := hr.cells.2.1
    have d0 : w12.cell? ⟨H, 0, none⟩ = some (.string s) := rowCell HP12.out.s 0
    have l1 : R < w12.heap.size := Go.lt_of_block hr.r
    have l0 : H < w12.heap.size := Go.lt_of_block HP12.out.s
    have HC1 : Hid (∀ w', Below w12.heap.size w12 w' → w'.cell? ⟨R, 1, none⟩ = some (.int .i64 x)) := fun w' hb => (hb.cell (p := ⟨R, 1, none⟩) l1).trans d1
    have HC0 : Hid (∀ w', Below w12.heap.size w12 w' → w'.cell? ⟨H, 0, none⟩ = some (.string s)) := fun w' hb => (hb.cell (p := ⟨H, 0, none⟩) l0).trans d0
    clear hx hr hsuf hpos hre hxx cM HFM HE2 H11 HP11 HN11 HFAR11 d1 d0 l1 l0 HS11
    go_wp2_with fail
    by_cases hlt : x < s.size
    · have HX : Hid (RES = .error (X.bad (rest s x))) := by
        show _ = _
        rw [HE3.out, if_neg (by rw [rest_nil]; omega)]
      have k0 : decide ((x : Int) < (s.size : Int)) = true := decide_eq_true (by omega)
      have k1 : decide (x < s.size) = true := decide_eq_true hlt
      clear hlt HE3
      refine quiet_lit (C := (fun w1 => Below w12.heap.size w12 w1)) (by kernel_rfl) (by kernel_rfl) ((Below.refl _ _).drew) ?_
      repeat (first
        | go_big_quiet_skip
        | (go_big_quiet_want
           refine quiet_val (x := ?_) (fun vv hC => ?_) ?_
           rotate_left
           · skip
             have c1 := HC1.out _ hC
             have c0 := HC0.out _ hC
             clear hC
             go_simp
             with_reducible rfl
           go_big_quiet_on
           try simp only [Act.put, List.setIfInBounds_toArray, List.set_cons_zero, List.set_cons_succ]))
      refine wpQuiet_nil ?_
      intro vq hq
      have H13 : Hid (Rd w11 R s x c' vq) := H12.out.below hq
      have HP13 : Hid (PB W H s vq) := HP12.out.below hq
      have cB := bad_any H13.out.own hxs
      clear hq
      go_wp2_with fail
      refine cB.mono ?_
      rintro e w14 ⟨rfl, hbl⟩
      exact leave_fail rfl rfl rfl HX.out hs (HP13.out.below hbl)
    · have HX : Hid (RES = .ok ee) := by
        show _ = _
        rw [HE3.out, if_pos ((rest_nil s x).2 (by omega))]
      have k0 : decide ((x : Int) < (s.size : Int)) = false := decide_eq_false (by omega)
      have k1 : decide (x < s.size) = false := decide_eq_false hlt
      clear hlt HE3
      refine quiet_lit (C := (fun w1 => Below w12.heap.size w12 w1)) (by kernel_rfl) (by kernel_rfl) ((Below.refl _ _).drew) ?_
      repeat (first
        | go_big_quiet_skip
        | (go_big_quiet_want
           refine quiet_val (x := ?_) (fun vv hC => ?_) ?_
           rotate_left
           · skip
             have c1 := HC1.out _ hC
             have c0 := HC0.out _ hC
             clear hC
             go_simp
             with_reducible rfl
           go_big_quiet_on
           try simp only [Act.put, List.setIfInBounds_toArray, List.set_cons_zero, List.set_cons_succ]))
      refine wpQuiet_nil ?_
      intro vq hq
      obtain ⟨w13, hw13⟩ : ∃ w13, vq = w13 := ⟨_, rfl⟩
      rw [hw13] at hq ⊢
      have HP13 : Hid (PB W H s w13) := HP12.out.below hq
      have HN13 : Hid (w13.heap[H + 1]? = some (.cells #[.string esp, .string elo, .slice ava avn avc, .slice kva kvn kvc, .string etx, .int .i64 eln, .int .i64 ecl] 28 (0, 0))) := (hq.block (H + 1) (Go.lt_of_block HN12.out)).trans HN12.out
      have HFAR13 : Hid (∀ b, w9.heap.size ≤ b → b < w10.heap.size → w13.heap[b]? = w10.heap[b]?) := fun b h1 h2 => (hq.block b (by have := HS12.out; omega)).trans (HFAR12.out b h1 h2)
      have HS13 : Hid (w10.heap.size ≤ w13.heap.size) := Nat.le_trans HS12.out hq.size
      clear hq hw13 HP12 HN12 HFAR12 HS12 H12
      obtain ⟨p0, p1, hp13⟩ := HP13.out.p
      obtain ⟨e0, he13⟩ := HP13.out.e
      obtain ⟨y0, y1, y2, y3, y4, y5, y6⟩ := row7 HN13.out
      have f0 := rowFree HN13.out 0
      have f1 := rowFree HN13.out 1
      have f2 := rowFree HN13.out 2
      have f3 := rowFree HN13.out 3
      have f4 := rowFree HN13.out 4
      have f5 := rowFree HN13.out 5
      have f6 := rowFree HN13.out 6
      obtain ⟨z0, z1⟩ := row2 hp13
      have fz0 := rowFree hp13 0
      have fz1 := rowFree hp13 1
      have v0 := rowCell he13 0
      have fv0 := rowFree he13 0
      have HP2' := hid hp13
      have HE2' := hid he13
      clear hp13 he13
      go_wp2_with fail
      have ga := st7_grown w13 (H + 1) (.string esp) (.string elo) (.slice ava avn avc) (.slice kva kvn kvc) (.string etx) (.int .i64 eln) (.int .i64 ecl)
      have na := st7_row HN13.out (.string esp) (.string elo) (.slice ava avn avc) (.slice kva kvn kvc) (.string etx) (.int .i64 eln) (.int .i64 ecl)
      have gb := (grownBy_set (st7 w13 (H + 1) (.string esp) (.string elo) (.slice ava avn avc) (.slice kva kvn kvc) (.string etx) (.int .i64 eln) (.int .i64 ecl)) (H + 2) 0 (.int .i64 0)).trans (grownBy_set _ (H + 2) 1 (.int .i64 0))
      have gc := grownBy_set (((st7 w13 (H + 1) (.string esp) (.string elo) (.slice ava avn avc) (.slice kva kvn kvc) (.string etx) (.int .i64 eln) (.int .i64 ecl)).setCell ⟨H + 2, 0, none⟩ (.int .i64 0)).setCell ⟨H + 2, 1, none⟩ (.int .i64 0)) (H + 3) 0 (.int .i64 0)
      have hl13 := HP13.out.lt
      have pa : (st7 w13 (H + 1) (.string esp) (.string elo) (.slice ava avn avc) (.slice kva kvn kvc) (.string etx) (.int .i64 eln) (.int .i64 ecl)).heap[H + 2]? = some (.cells #[p0, p1] 26 (0, 0)) := (ga.block (H + 2) (by omega) (fun e => by have := Option.some.inj e; omega)).trans HP2'.out
      have ea : (st7 w13 (H + 1) (.string esp) (.string elo) (.slice ava avn avc) (.slice kva kvn kvc) (.string etx) (.int .i64 eln) (.int .i64 ecl)).heap[H + 3]? = some (.cells #[e0] 29 (0, 0)) := (ga.block (H + 3) (by omega) (fun e => by have := Option.some.inj e; omega)).trans HE2'.out
      have pb := row_set (row_set pa 0 (.int .i64 0)) 1 (.int .i64 0)
      have eb := (gb.block (H + 3) (by have := ga.size; omega) (fun e => by have := Option.some.inj e; omega)).trans ea
      have ec := row_set eb 0 (.int .i64 0)
      have pc := (gc.block (H + 2) (by have := ga.size; have := gb.size; omega) (fun e => by have := Option.some.inj e; omega)).trans pb
      have nb := (gb.block (H + 1) (by have := ga.size; omega) (fun e => by have := Option.some.inj e; omega)).trans na
      have nc := (gc.block (H + 1) (by have := ga.size; have := gb.size; omega) (fun e => by have := Option.some.inj e; omega)).trans nb
      have hfar : ∀ b, w9.heap.size ≤ b → b < w10.heap.size → (((((st7 w13 (H + 1) (.string esp) (.string elo) (.slice ava avn avc) (.slice kva kvn kvc) (.string etx) (.int .i64 eln) (.int .i64 ecl)).setCell ⟨H + 2, 0, none⟩ (.int .i64 0)).setCell ⟨H + 2, 1, none⟩ (.int .i64 0)).setCell ⟨H + 3, 0, none⟩ (.int .i64 0))).heap[b]? = w10.heap[b]? := by
        intro b h1 h2
        have := HSZ.out
        have := HS13.out
        have := HR4.out
        have sa := ga.size
        have sb := gb.size
        rw [gc.block b (by omega) (fun e => by have := Option.some.inj e; omega), gb.block b (by omega) (fun e => by have := Option.some.inj e; omega), ga.block b (by omega) (fun e => by have := Option.some.inj e; omega)]
        exact HFAR13.out b h1 h2
      exact leave_ok (e := ee) (cs := [.string esp, .string elo, .slice ava avn avc, .slice kva kvn kvc, .string etx, .int .i64 eln, .int .i64 ecl]) rfl rfl rfl HX.out nc rfl pc ec HP13.out.h (X.E.Has.keep (fun b hb => hb.via (hfar b hb.1 hb.2.1) (by have := HSZ.out; have := HR4.out; omega)) (fun b hb => hfar b hb.1 hb.2.1) HHAS.out) (((HP13.out.b.grown ga (by omega) (fun k hk => by have := Option.some.inj hk; omega)).grown gb (by have := ga.size; omega) (fun k hk => by have := Option.some.inj hk; omega)).grown gc (by have := ga.size; have := gb.size; omega) (fun k hk => by have := Option.some.inj hk; omega))
  · have H2' := hid (HR2.out.below g3)
    have HP2' := hid (HP2.out.below g3)
    have cT2 := take_l (k := 38) X.head2 ⟨#[60, 63, 120, 109, 108, 32, 118, 101, 114, 115, 105, 111, 110, 61, 34, 49, 46, 48, 34, 32, 101, 110, 99, 111, 100, 105, 110, 103, 61, 34, 85, 84, 70, 45, 56, 34, 63, 62]⟩ rfl rfl H2'.out.own (Nat.zero_le _) hs
    clear g3 cT HR2 HP2
    go_wp2_with fail
    refine cT2.mono ?_
    rintro e w3 (⟨k1, g2, rfl, g3⟩ | ⟨k1, rfl, g3⟩)
    · obtain rfl : p0 = 38 := by
        rcases hcase with ⟨h, _⟩ | ⟨_, _, h⟩ | ⟨_, h, _⟩
        · rw [g1] at h; cases h
        · exact h
        · rw [k1] at h; cases h
      have H3 : Hid (Rd w2 R s 38 0 w3) := H2'.out.trans g3
      have HP3 : Hid (PB W H s w3) := HP2'.out.grown g3.g HR4.out
      clear g1 k1 g2 g3 cT2 hcase H2' HP2'
      have HE0 : Hid (RES = match X.misc (s.size + 1) (rest s 38) with
          | .error e => .error e
          | .ok (_, l) =>
            if (![60].isPrefixOf l || [60, 33].isPrefixOf l || [60, 63].isPrefixOf l) = true then .error (X.bad l)
            else match X.elem s.data.toList 16 X.known0 0 l with
              | .error e => .error e
              | .ok ((e, _), l2) => match X.misc (s.size + 1) l2 with
                | .error e => .error e
                | .ok (_, l3) => if l3 = [] then .ok e else .error (X.bad l3)) := by
        show _ = _
        rw [← hRES, X.parse, hst, ← Lib.size_eq]
        rfl
      have cM := misc_any (s.size + 1) (by omega) H3.out.own hp0 hs (HG.out.keep HP3.out.b) HRH.out
      have HFM := hid (X.misc_fair (s.size + 1) (rest s 38))
      clear hst
      go_wp2_with fail
      refine cM.mono ?_
      rintro e w4 (⟨_, r, hx, rfl, hr⟩ | ⟨n, e, hx, rfl, hr⟩)
      rotate_left
      · have HX : Hid (RES = .error (n, e)) := by show _ = _; rw [HE0.out, hx]
        exact leave_fail rfl rfl rfl HX.out hs (HP3.out.grown hr HR4.out)
      have hsuf := (HFM.out.1 _ _ hx).1
      have hpos := rest_pos hsuf hp0
      have hre := rest_suf hsuf
      obtain ⟨u, hu⟩ : ∃ u, s.size - r.length = u := ⟨_, rfl⟩
      rw [hu] at hr hpos hre
      have hus := hpos.2
      have HE1 : Hid (RES = if (![60].isPrefixOf (rest s u) || [60, 33].isPrefixOf (rest s u) || [60, 63].isPrefixOf (rest s u)) = true then .error (X.bad (rest s u))
            else match X.elem s.data.toList 16 X.known0 0 (rest s u) with
              | .error e => .error e
              | .ok ((e, _), l2) => match X.misc (s.size + 1) l2 with
                | .error e => .error e
                | .ok (_, l3) => if l3 = [] then .ok e else .error (X.bad l3)) := by
        show _ = _
        rw [HE0.out, hx, ← hre]
      have H4 := hid (H3.out.trans hr)
      have HP4 : Hid (PB W H s w4) := HP3.out.grown hr.g HR4.out
      have cN := next_l [60] ⟨#[60]⟩ rfl H4.out.own hus
      clear hx hr hsuf hpos hre hu cM HFM HE0 H3 HP3 hp0
      cases b1 : [60].isPrefixOf (rest s u)
      · have HX : Hid (RES = .error (X.bad (rest s u))) := by show _ = _; rw [HE1.out, b1]; rfl
        rw [b1] at cN
        clear b1 HE1
        go_wp2_with fail
        refine cN.mono ?_
        rintro e w5 ⟨rfl, g3⟩
        have H5 := hid (H4.out.below g3)
        have HP5 := hid (HP4.out.below g3)
        have cB := bad_any H5.out.own hus
        clear g3 cN
        go_wp2_with fail
        refine cB.mono ?_
        rintro e w6 ⟨rfl, hbl⟩
        exact leave_fail rfl rfl rfl HX.out hs (HP5.out.below hbl)
      rw [b1] at cN HE1
      clear b1
      go_wp2_with fail
      refine cN.mono ?_
      rintro e w5 ⟨rfl, g3⟩
      have H5 := hid (H4.out.below g3)
      have HP5 := hid (HP4.out.below g3)
      clear g3 cN H4 HP4
      have cN := next_l [60, 33] ⟨#[60, 33]⟩ rfl H5.out.own hus
      cases b2 : [60, 33].isPrefixOf (rest s u)
      rotate_left
      · have HX : Hid (RES = .error (X.bad (rest s u))) := by show _ = _; rw [HE1.out, b2]; rfl
        rw [b2] at cN
        clear b2 HE1
        go_wp2_with fail
        refine cN.mono ?_
        rintro e w6 ⟨rfl, g3⟩
        have H6 := hid (H5.out.below g3)
        have HP6 := hid (HP5.out.below g3)
        have cB := bad_any H6.out.own hus
        clear g3 cN
        go_wp2_with fail
        refine cB.mono ?_
        rintro e w7 ⟨rfl, hbl⟩
        exact leave_fail rfl rfl rfl HX.out hs (HP6.out.below hbl)
      rw [b2] at cN HE1
      clear b2
      go_wp2_with fail
      refine cN.mono ?_
      rintro e w6 ⟨rfl, g3⟩
      have H6 := hid (H5.out.below g3)
      have HP6 := hid (HP5.out.below g3)
      clear g3 cN H5 HP5
      have cN := next_l [60, 63] ⟨#[60, 63]⟩ rfl H6.out.own hus
      cases b3 : [60, 63].isPrefixOf (rest s u)
      rotate_left
      · have HX : Hid (RES = .error (X.bad (rest s u))) := by show _ = _; rw [HE1.out, b3]; rfl
        rw [b3] at cN
        clear b3 HE1
        go_wp2_with fail
        refine cN.mono ?_
        rintro e w7 ⟨rfl, g3⟩
        have H7 := hid (H6.out.below g3)
        have HP7 := hid (HP6.out.below g3)
        have cB := bad_any H7.out.own hus
        clear g3 cN
        go_wp2_with fail
        refine cB.mono ?_
        rintro e w8 ⟨rfl, hbl⟩
        exact leave_fail rfl rfl rfl HX.out hs (HP7.out.below hbl)
      rw [b3] at cN HE1
      clear b3
      simp only [Bool.not_true, Bool.or_false, Bool.false_eq_true, if_false] at HE1
      go_wp2_with fail
      refine cN.mono ?_
      rintro e w7 ⟨rfl, g3⟩
      have H7 := hid (H6.out.below g3)
      have HP7 := hid (HP6.out.below g3)
      clear g3 cN H6 HP6
      have hmm := @run_makeMap Tryz.prog
      have m0 : KM (w7.alloc (.map #[] 0)) w7.heap.size 0 [] := World.ownsMap_made (H := Unit) w7 Tryz.prog 9 (plainElem Tryz.prog 9)
      obtain ⟨w8, u1, m1, t1⟩ := m0.put (by unfold maxLen; omega) ⟨#[]⟩ ⟨#[]⟩ (by decide) (by decide)
      obtain ⟨w9, u2, m2, t2⟩ := m1.put (by unfold maxLen; omega) ⟨#[120, 109, 108]⟩ ⟨#[104, 116, 116, 112, 58, 47, 47, 119, 119, 119, 46, 119, 51, 46, 111, 114, 103, 47, 88, 77, 76, 47, 49, 57, 57, 56, 47, 110, 97, 109, 101, 115, 112, 97, 99, 101]⟩ (by decide) (by decide)
      have HK9 : Hid (KM w9 w7.heap.size 2 X.known0) := m2
      have HB79 : Hid (Below w7.heap.size w7 w9) := by
        have b0 : Below w7.heap.size w7 (w7.alloc (.map #[] 0)) := (Below.refl _ w7).alloc (Nat.le_refl _) _
        exact b0.grown (t1.grown.trans t2.grown) b0.size (fun q hq => by simp at hq; omega)
      have H9 := hid (H7.out.below HB79.out)
      have HP9 := hid (HP7.out.below HB79.out)
      have HMR : Hid (w7.heap.size ≠ R) := by have := Go.lt_of_block H7.out.r; show _ ≠ _; omega
      have cE := element_any H R s hs6 HRH.out 16 0 rfl u 0 w9 w7.heap.size 2 X.known0 H9.out.own hus (by omega) (HG.out.keep HP9.out.b) HK9.out HMR.out (by omega)
      obtain ⟨M, hM⟩ : ∃ M, w7.heap.size = M := ⟨_, rfl⟩
      have HFE := hid (X.elem_fair s.data.toList 16 X.known0 0 (rest s u))
      clear m0 m1 m2 t1 t2 hM
      go_wp2_with fail
      refine cE.mono ?_
      rintro _ w10 (⟨ee, c', r, cs, hx, rfl, hh, hc', hr⟩ | ⟨n, e, hx, rfl, hr⟩)
      rotate_left
      · have HX : Hid (RES = .error (n, e)) := by show _ = _; rw [HE1.out, hx]
        exact leave_fail rfl rfl rfl HX.out hs (HP9.out.grown hr HR4.out)
      have hsuf := (HFE.out.1 _ _ hx).1
      have hpos := rest_pos hsuf hus
      have hre := rest_suf hsuf
      obtain ⟨v, hv⟩ : ∃ v, s.size - r.length = v := ⟨_, rfl⟩
      rw [hv] at hr hpos hre
      have hvs := hpos.2
      have HE2 : Hid (RES = match X.misc (s.size + 1) (rest s v) with
          | .error e => .error e
          | .ok (_, l3) => if l3 = [] then .ok ee else .error (X.bad l3)) := by
        show _ = _
        rw [HE1.out, hx, ← hre]
      obtain ⟨av, kv, rfl, hav, hkv⟩ := hh
      obtain ⟨ava, avc, rfl⟩ := hav.shape
      obtain ⟨kva, kvc, rfl⟩ := hkv.shape
      have hhas : ee.Has w10 (OwnN w10 w9.heap.size none) [.string ee.sp, .string ee.lo, .slice ava (X.E.as ee).length avc, .slice kva ee.ks.length kvc, .string ee.tx, .int .i64 ee.ln, .int .i64 ee.cl] := ⟨_, _, rfl, hav, hkv⟩
      obtain ⟨esp, hesp⟩ : ∃ z, ee.sp = z := ⟨_, rfl⟩
      obtain ⟨elo, helo⟩ : ∃ z, ee.lo = z := ⟨_, rfl⟩
      obtain ⟨etx, hetx⟩ : ∃ z, ee.tx = z := ⟨_, rfl⟩
      obtain ⟨eln, heln⟩ : ∃ z, ee.ln = z := ⟨_, rfl⟩
      obtain ⟨ecl, hecl⟩ : ∃ z, ee.cl = z := ⟨_, rfl⟩
      obtain ⟨avn, havn⟩ : ∃ z, (X.E.as ee).length = z := ⟨_, rfl⟩
      obtain ⟨kvn, hkvn⟩ : ∃ z, ee.ks.length = z := ⟨_, rfl⟩
      rw [hesp, helo, hetx, heln, hecl, havn, hkvn] at hhas ⊢
      have HHAS := hid hhas
      clear hav hkv hhas hesp helo hetx heln hecl havn hkvn
      have HP10 : Hid (PB W H s w10) := HP9.out.grown hr.g HR4.out
      have hr10 := hr.r
      have HSZ : Hid (R < w9.heap.size ∧ w9.heap.size ≤ w10.heap.size) := ⟨Go.lt_of_block H9.out.r, hr.g.size⟩
      obtain ⟨x0, x1, x2, x3, x4, x5, x6, hn10⟩ := HP10.out.n
      obtain ⟨y0, y1, y2, y3, y4, y5, y6⟩ := row7 hn10
      have f0 := rowFree hn10 0
      have f1 := rowFree hn10 1
      have f2 := rowFree hn10 2
      have f3 := rowFree hn10 3
      have f4 := rowFree hn10 4
      have f5 := rowFree hn10 5
      have f6 := rowFree hn10 6
      obtain ⟨w11, hw11⟩ : ∃ w11, st7 w10 (H + 1) (.string esp) (.string elo) (.slice ava avn avc) (.slice kva kvn kvc) (.string etx) (.int .i64 eln) (.int .i64 ecl) = w11 := ⟨_, rfl⟩
      have g11 : w10.grownBy w11 (some (H + 1)) := by rw [← hw11]; exact st7_grown _ _ _ _ _ _ _ _ _
      have HN11 : Hid (w11.heap[H + 1]? = some (.cells #[.string esp, .string elo, .slice ava avn avc, .slice kva kvn kvc, .string etx, .int .i64 eln, .int .i64 ecl] 28 (0, 0))) := by show _ = _; rw [← hw11]; exact st7_row hn10 _ _ _ _ _ _ _
      have HP11 : Hid (PB W H s w11) := HP10.out.setN g11 HN11.out
      have hr11 : w11.heap[R]? = some (mRow s v c') := (g11.block R (Go.lt_of_block hr10) (fun e => by have := Option.some.inj e; have := HR4.out; omega)).trans hr10
      have H11 : Hid (Rd w11 R s v c' w11) := ⟨⟨rfl, rfl, rfl, Nat.le_refl _, fun _ _ _ => rfl⟩, hr11, Go.lt_of_block hr11⟩
      have HFAR11 : Hid (∀ b, w9.heap.size ≤ b → b < w10.heap.size → w11.heap[b]? = w10.heap[b]?) := fun b h1 h2 => g11.block b h2 (fun e => by have := Option.some.inj e; have := HSZ.out; have := HR4.out; omega)
      have HS11 : Hid (w10.heap.size ≤ w11.heap.size) := g11.size
      have cM := misc_any (s.size + 1) (by omega) H11.out.own hvs hs (HG.out.keep HP11.out.b) HRH.out
      have HFM := hid (X.misc_fair (s.size + 1) (rest s v))
      have HW11 : Hid ((((((((w10.setCell ⟨H + 1, 0, none⟩ (.string esp)).setCell ⟨H + 1, 1, none⟩ (.string elo)).setCell ⟨H + 1, 2, none⟩ (.slice ava avn avc)).setCell ⟨H + 1, 3, none⟩ (.slice kva kvn kvc)).setCell ⟨H + 1, 4, none⟩ (.string etx)).setCell ⟨H + 1, 5, none⟩ (.int .i64 eln)).setCell ⟨H + 1, 6, none⟩ (.int .i64 ecl)) = w11) := hw11
      clear hx hr hr10 hr11 hsuf hpos hre hv cE HFE HE1 hn10 g11 hw11 HP10 H9 HP9 HB79 HK9 H7 HP7
      go_upto_region 11 with fail
      rw [HW11.out]
      clear HW11 y0 y1 y2 y3 y4 y5 y6 f0 f1 f2 f3 f4 f5 f6
      go_wp2_with fail
      refine cM.mono ?_
      rintro e w12 (⟨_, r, hx, rfl, hr⟩ | ⟨n, e, hx, rfl, hr⟩)
      rotate_left
      · have HX : Hid (RES = .error (n, e)) := by show _ = _; rw [HE2.out, hx]
        exact leave_fail rfl rfl rfl HX.out hs (HP11.out.grown hr HR4.out)
      have hsuf := (HFM.out.1 _ _ hx).1
      have hpos := rest_pos hsuf hvs
      have hre := rest_suf hsuf
      obtain ⟨x, hxx⟩ : ∃ x, s.size - r.length = x := ⟨_, rfl⟩
      rw [hxx] at hr hpos hre
      have hxs := hpos.2
      have HE3 : Hid (RES = if rest s x = [] then .ok ee else .error (X.bad (rest s x))) := by
        show _ = _
        rw [HE2.out, hx, ← hre]
      have HP12 : Hid (PB W H s w12) := HP11.out.grown hr.g HR4.out
      have HN12 : Hid (w12.heap[H + 1]? = some (.cells #[.string esp, .string elo, .slice ava avn avc, .slice kva kvn kvc, .string etx, .int .i64 eln, .int .i64 ecl] 28 (0, 0))) := (hr.g.block (H + 1) (Go.lt_of_block HN11.out) (fun e => by have := Option.some.inj e; have := HR4.out; omega)).trans HN11.out
      have HFAR12 : Hid (∀ b, w9.heap.size ≤ b → b < w10.heap.size → w12.heap[b]? = w10.heap[b]?) := fun b h1 h2 => (hr.g.block b (by have := HS11.out; omega) (fun e => by have := Option.some.inj e; have := HSZ.out; omega)).trans (HFAR11.out b h1 h2)
      have HS12 : Hid (w10.heap.size ≤ w12.heap.size) := Nat.le_trans HS11.out hr.g.size
      have H12 := hid hr
      have d1 : w12.cell? ⟨R, 1, none⟩ = some (.int .i64 x) := hr.cells.2.1
      have d0 : w12.cell? ⟨H, 0, none⟩ = some (.string s) := rowCell HP12.out.s 0
      have l1 : R < w12.heap.size := Go.lt_of_block hr.r
      have l0 : H < w12.heap.size := Go.lt_of_block HP12.out.s
      have HC1 : Hid (∀ w', Below w12.heap.size w12 w' → w'.cell? ⟨R, 1, none⟩ = some (.int .i64 x)) := fun w' hb => (hb.cell (p := ⟨R, 1, none⟩) l1).trans d1
      have HC0 : Hid (∀ w', Below w12.heap.size w12 w' → w'.cell? ⟨H, 0, none⟩ = some (.string s)) := fun w' hb => (hb.cell (p := ⟨H, 0, none⟩) l0).trans d0
      clear hx hr hsuf hpos hre hxx cM HFM HE2 H11 HP11 HN11 HFAR11 d1 d0 l1 l0 HS11
      go_wp2_with fail
      by_cases hlt : x < s.size
      · have HX : Hid (RES = .error (X.bad (rest s x))) := by
          show _ = _
          rw [HE3.out, if_neg (by rw [rest_nil]; omega)]
        have k0 : decide ((x : Int) < (s.size : Int)) = true := decide_eq_true (by omega)
        have k1 : decide (x < s.size) = true := decide_eq_true hlt
        clear hlt HE3
        refine quiet_lit (C := (fun w1 => Below w12.heap.size w12 w1)) (by kernel_rfl) (by kernel_rfl) ((Below.refl _ _).drew) ?_
        repeat (first
          | go_big_quiet_skip
          | (go_big_quiet_want
             refine quiet_val (x := ?_) (fun vv hC => ?_) ?_
             rotate_left
             · skip
               have c1 := HC1.out _ hC
               have c0 := HC0.out _ hC
               clear hC
               go_simp
               with_reducible rfl
             go_big_quiet_on
             try simp only [Act.put, List.setIfInBounds_toArray, List.set_cons_zero, List.set_cons_succ]))
        refine wpQuiet_nil ?_
        intro vq hq
        have H13 : Hid (Rd w11 R s x c' vq) := H12.out.below hq
        have HP13 : Hid (PB W H s vq) := HP12.out.below hq
        have cB := bad_any H13.out.own hxs
        clear hq
        go_wp2_with fail
        refine cB.mono ?_
        rintro e w14 ⟨rfl, hbl⟩
        exact leave_fail rfl rfl rfl HX.out hs (HP13.out.below hbl)
      · have HX : Hid (RES = .ok ee) := by
          show _ = _
          rw [HE3.out, if_pos ((rest_nil s x).2 (by omega))]
        have k0 : decide ((x : Int) < (s.size : Int)) = false := decide_eq_false (by omega)
        have k1 : decide (x < s.size) = false := decide_eq_false hlt
        clear hlt HE3
        refine quiet_lit (C := (fun w1 => Below w12.heap.size w12 w1)) (by kernel_rfl) (by kernel_rfl) ((Below.refl _ _).drew) ?_
        repeat (first
          | go_big_quiet_skip
          | (go_big_quiet_want
             refine quiet_val (x := ?_) (fun vv hC => ?_) ?_
             rotate_left
             · skip
               have c1 := HC1.out _ hC
               have c0 := HC0.out _ hC
               clear hC
               go_simp
               with_reducible rfl
             go_big_quiet_on
             try simp only [Act.put, List.setIfInBounds_toArray, List.set_cons_zero, List.set_cons_succ]))
        refine wpQuiet_nil ?_
        intro vq hq
        obtain ⟨w13, hw13⟩ : ∃ w13, vq = w13 := ⟨_, rfl⟩
        rw [hw13] at hq ⊢
        have HP13 : Hid (PB W H s w13) := HP12.out.below hq
        have HN13 : Hid (w13.heap[H + 1]? = some (.cells #[.string esp, .string elo, .slice ava avn avc, .slice kva kvn kvc, .string etx, .int .i64 eln, .int .i64 ecl] 28 (0, 0))) := (hq.block (H + 1) (Go.lt_of_block HN12.out)).trans HN12.out
        have HFAR13 : Hid (∀ b, w9.heap.size ≤ b → b < w10.heap.size → w13.heap[b]? = w10.heap[b]?) := fun b h1 h2 => (hq.block b (by have := HS12.out; omega)).trans (HFAR12.out b h1 h2)
        have HS13 : Hid (w10.heap.size ≤ w13.heap.size) := Nat.le_trans HS12.out hq.size
        clear hq hw13 HP12 HN12 HFAR12 HS12 H12
        obtain ⟨p0, p1, hp13⟩ := HP13.out.p
        obtain ⟨e0, he13⟩ := HP13.out.e
        obtain ⟨y0, y1, y2, y3, y4, y5, y6⟩ := row7 HN13.out
        have f0 := rowFree HN13.out 0
        have f1 := rowFree HN13.out 1
        have f2 := rowFree HN13.out 2
        have f3 := rowFree HN13.out 3
        have f4 := rowFree HN13.out 4
        have f5 := rowFree HN13.out 5
        have f6 := rowFree HN13.out 6
        obtain ⟨z0, z1⟩ := row2 hp13
        have fz0 := rowFree hp13 0
        have fz1 := rowFree hp13 1
        have v0 := rowCell he13 0
        have fv0 := rowFree he13 0
        have HP2' := hid hp13
        have HE2' := hid he13
        clear hp13 he13
        go_wp2_with fail
        have ga := st7_grown w13 (H + 1) (.string esp) (.string elo) (.slice ava avn avc) (.slice kva kvn kvc) (.string etx) (.int .i64 eln) (.int .i64 ecl)
        have na := st7_row HN13.out (.string esp) (.string elo) (.slice ava avn avc) (.slice kva kvn kvc) (.string etx) (.int .i64 eln) (.int .i64 ecl)
        have gb := (grownBy_set (st7 w13 (H + 1) (.string esp) (.string elo) (.slice ava avn avc) (.slice kva kvn kvc) (.string etx) (.int .i64 eln) (.int .i64 ecl)) (H + 2) 0 (.int .i64 0)).trans (grownBy_set _ (H + 2) 1 (.int .i64 0))
        have gc := grownBy_set (((st7 w13 (H + 1) (.string esp) (.string elo) (.slice ava avn avc) (.slice kva kvn kvc) (.string etx) (.int .i64 eln) (.int .i64 ecl)).setCell ⟨H + 2, 0, none⟩ (.int .i64 0)).setCell ⟨H + 2, 1, none⟩ (.int .i64 0)) (H + 3) 0 (.int .i64 0)
        have hl13 := HP13.out.lt
        have pa : (st7 w13 (H + 1) (.string esp) (.string elo) (.slice ava avn avc) (.slice kva kvn kvc) (.string etx) (.int .i64 eln) (.int .i64 ecl)).heap[H + 2]? = some (.cells #[p0, p1] 26 (0, 0)) := (ga.block (H + 2) (by omega) (fun e => by have := Option.some.inj e; omega)).trans HP2'.out
        have ea : (st7 w13 (H + 1) (.string esp) (.string elo) (.slice ava avn avc) (.slice kva kvn kvc) (.string etx) (.int .i64 eln) (.int .i64 ecl)).heap[H + 3]? = some (.cells #[e0] 29 (0, 0)) := (ga.block (H + 3) (by omega) (fun e => by have := Option.some.inj e; omega)).trans HE2'.out
        have pb := row_set (row_set pa 0 (.int .i64 0)) 1 (.int .i64 0)
        have eb := (gb.block (H + 3) (by have := ga.size; omega) (fun e => by have := Option.some.inj e; omega)).trans ea
        have ec := row_set eb 0 (.int .i64 0)
        have pc := (gc.block (H + 2) (by have := ga.size; have := gb.size; omega) (fun e => by have := Option.some.inj e; omega)).trans pb
        have nb := (gb.block (H + 1) (by have := ga.size; omega) (fun e => by have := Option.some.inj e; omega)).trans na
        have nc := (gc.block (H + 1) (by have := ga.size; have := gb.size; omega) (fun e => by have := Option.some.inj e; omega)).trans nb
        have hfar : ∀ b, w9.heap.size ≤ b → b < w10.heap.size → (((((st7 w13 (H + 1) (.string esp) (.string elo) (.slice ava avn avc) (.slice kva kvn kvc) (.string etx) (.int .i64 eln) (.int .i64 ecl)).setCell ⟨H + 2, 0, none⟩ (.int .i64 0)).setCell ⟨H + 2, 1, none⟩ (.int .i64 0)).setCell ⟨H + 3, 0, none⟩ (.int .i64 0))).heap[b]? = w10.heap[b]? := by
          intro b h1 h2
          have := HSZ.out
          have := HS13.out
          have := HR4.out
          have sa := ga.size
          have sb := gb.size
          rw [gc.block b (by omega) (fun e => by have := Option.some.inj e; omega), gb.block b (by omega) (fun e => by have := Option.some.inj e; omega), ga.block b (by omega) (fun e => by have := Option.some.inj e; omega)]
          exact HFAR13.out b h1 h2
        exact leave_ok (e := ee) (cs := [.string esp, .string elo, .slice ava avn avc, .slice kva kvn kvc, .string etx, .int .i64 eln, .int .i64 ecl]) rfl rfl rfl HX.out nc rfl pc ec HP13.out.h (X.E.Has.keep (fun b hb => hb.via (hfar b hb.1 hb.2.1) (by have := HSZ.out; have := HR4.out; omega)) (fun b hb => hfar b hb.1 hb.2.1) HHAS.out) (((HP13.out.b.grown ga (by omega) (fun k hk => by have := Option.some.inj hk; omega)).grown gb (by have := ga.size; omega) (fun k hk => by have := Option.some.inj hk; omega)).grown gc (by have := ga.size; have := gb.size; omega) (fun k hk => by have := Option.some.inj hk; omega))
    · obtain rfl : p0 = 0 := by
        rcases hcase with ⟨h, _⟩ | ⟨_, h, _⟩ | ⟨_, _, h⟩
        · rw [g1] at h; cases h
        · rw [k1] at h; cases h
        · exact h
      have H3 := hid (H2'.out.below g3)
      have HP3 := hid (HP2'.out.below g3)
      clear g1 k1 g3 cT2 hcase H2' HP2'
      have HE0 : Hid (RES = match X.misc (s.size + 1) (rest s 0) with
          | .error e => .error e
          | .ok (_, l) =>
            if (![60].isPrefixOf l || [60, 33].isPrefixOf l || [60, 63].isPrefixOf l) = true then .error (X.bad l)
            else match X.elem s.data.toList 16 X.known0 0 l with
              | .error e => .error e
              | .ok ((e, _), l2) => match X.misc (s.size + 1) l2 with
                | .error e => .error e
                | .ok (_, l3) => if l3 = [] then .ok e else .error (X.bad l3)) := by
        show _ = _
        rw [← hRES, X.parse, hst, ← Lib.size_eq]
        rfl
      have cM := misc_any (s.size + 1) (by omega) H3.out.own hp0 hs (HG.out.keep HP3.out.b) HRH.out
      have HFM := hid (X.misc_fair (s.size + 1) (rest s 0))
      clear hst
      go_wp2_with fail
      refine cM.mono ?_
      rintro e w4 (⟨_, r, hx, rfl, hr⟩ | ⟨n, e, hx, rfl, hr⟩)
      rotate_left
      · have HX : Hid (RES = .error (n, e)) := by show _ = _; rw [HE0.out, hx]
        exact leave_fail rfl rfl rfl HX.out hs (HP3.out.grown hr HR4.out)
      have hsuf := (HFM.out.1 _ _ hx).1
      have hpos := rest_pos hsuf hp0
      have hre := rest_suf hsuf
      obtain ⟨u, hu⟩ : ∃ u, s.size - r.length = u := ⟨_, rfl⟩
      rw [hu] at hr hpos hre
      have hus := hpos.2
      have HE1 : Hid (RES = if (![60].isPrefixOf (rest s u) || [60, 33].isPrefixOf (rest s u) || [60, 63].isPrefixOf (rest s u)) = true then .error (X.bad (rest s u))
            else match X.elem s.data.toList 16 X.known0 0 (rest s u) with
              | .error e => .error e
              | .ok ((e, _), l2) => match X.misc (s.size + 1) l2 with
                | .error e => .error e
                | .ok (_, l3) => if l3 = [] then .ok e else .error (X.bad l3)) := by
        show _ = _
        rw [HE0.out, hx, ← hre]
      have H4 := hid (H3.out.trans hr)
      have HP4 : Hid (PB W H s w4) := HP3.out.grown hr.g HR4.out
      have cN := next_l [60] ⟨#[60]⟩ rfl H4.out.own hus
      clear hx hr hsuf hpos hre hu cM HFM HE0 H3 HP3 hp0
      cases b1 : [60].isPrefixOf (rest s u)
      · have HX : Hid (RES = .error (X.bad (rest s u))) := by show _ = _; rw [HE1.out, b1]; rfl
        rw [b1] at cN
        clear b1 HE1
        go_wp2_with fail
        refine cN.mono ?_
        rintro e w5 ⟨rfl, g3⟩
        have H5 := hid (H4.out.below g3)
        have HP5 := hid (HP4.out.below g3)
        have cB := bad_any H5.out.own hus
        clear g3 cN
        go_wp2_with fail
        refine cB.mono ?_
        rintro e w6 ⟨rfl, hbl⟩
        exact leave_fail rfl rfl rfl HX.out hs (HP5.out.below hbl)
      rw [b1] at cN HE1
      clear b1
      go_wp2_with fail
      refine cN.mono ?_
      rintro e w5 ⟨rfl, g3⟩
      have H5 := hid (H4.out.below g3)
      have HP5 := hid (HP4.out.below g3)
      clear g3 cN H4 HP4
      have cN := next_l [60, 33] ⟨#[60, 33]⟩ rfl H5.out.own hus
      cases b2 : [60, 33].isPrefixOf (rest s u)
      rotate_left
      · have HX : Hid (RES = .error (X.bad (rest s u))) := by show _ = _; rw [HE1.out, b2]; rfl
        rw [b2] at cN
        clear b2 HE1
        go_wp2_with fail
        refine cN.mono ?_
        rintro e w6 ⟨rfl, g3⟩
        have H6 := hid (H5.out.below g3)
        have HP6 := hid (HP5.out.below g3)
        have cB := bad_any H6.out.own hus
        clear g3 cN
        go_wp2_with fail
        refine cB.mono ?_
        rintro e w7 ⟨rfl, hbl⟩
        exact leave_fail rfl rfl rfl HX.out hs (HP6.out.below hbl)
      rw [b2] at cN HE1
      clear b2
      go_wp2_with fail
      refine cN.mono ?_
      rintro e w6 ⟨rfl, g3⟩
      have H6 := hid (H5.out.below g3)
      have HP6 := hid (HP5.out.below g3)
      clear g3 cN H5 HP5
      have cN := next_l [60, 63] ⟨#[60, 63]⟩ rfl H6.out.own hus
      cases b3 : [60, 63].isPrefixOf (rest s u)
      rotate_left
      · have HX : Hid (RES = .error (X.bad (rest s u))) := by show _ = _; rw [HE1.out, b3]; rfl
        rw [b3] at cN
        clear b3 HE1
        go_wp2_with fail
        refine cN.mono ?_
        rintro e w7 ⟨rfl, g3⟩
        have H7 := hid (H6.out.below g3)
        have HP7 := hid (HP6.out.below g3)
        have cB := bad_any H7.out.own hus
        clear g3 cN
        go_wp2_with fail
        refine cB.mono ?_
        rintro e w8 ⟨rfl, hbl⟩
        exact leave_fail rfl rfl rfl HX.out hs (HP7.out.below hbl)
      rw [b3] at cN HE1
      clear b3
      simp only [Bool.not_true, Bool.or_false, Bool.false_eq_true, if_false] at HE1
      go_wp2_with fail
      refine cN.mono ?_
      rintro e w7 ⟨rfl, g3⟩
      have H7 := hid (H6.out.below g3)
      have HP7 := hid (HP6.out.below g3)
      clear g3 cN H6 HP6
      have hmm := @run_makeMap Tryz.prog
      have m0 : KM (w7.alloc (.map #[] 0)) w7.heap.size 0 [] := World.ownsMap_made (H := Unit) w7 Tryz.prog 9 (plainElem Tryz.prog 9)
      obtain ⟨w8, u1, m1, t1⟩ := m0.put (by unfold maxLen; omega) ⟨#[]⟩ ⟨#[]⟩ (by decide) (by decide)
      obtain ⟨w9, u2, m2, t2⟩ := m1.put (by unfold maxLen; omega) ⟨#[120, 109, 108]⟩ ⟨#[104, 116, 116, 112, 58, 47, 47, 119, 119, 119, 46, 119, 51, 46, 111, 114, 103, 47, 88, 77, 76, 47, 49, 57, 57, 56, 47, 110, 97, 109, 101, 115, 112, 97, 99, 101]⟩ (by decide) (by decide)
      have HK9 : Hid (KM w9 w7.heap.size 2 X.known0) := m2
      have HB79 : Hid (Below w7.heap.size w7 w9) := by
        have b0 : Below w7.heap.size w7 (w7.alloc (.map #[] 0)) := (Below.refl _ w7).alloc (Nat.le_refl _) _
        exact b0.grown (t1.grown.trans t2.grown) b0.size (fun q hq => by simp at hq; omega)
      have H9 := hid (H7.out.below HB79.out)
      have HP9 := hid (HP7.out.below HB79.out)
      have HMR : Hid (w7.heap.size ≠ R) := by have := Go.lt_of_block H7.out.r; show _ ≠ _; omega
      have cE := element_any H R s hs6 HRH.out 16 0 rfl u 0 w9 w7.heap.size 2 X.known0 H9.out.own hus (by omega) (HG.out.keep HP9.out.b) HK9.out HMR.out (by omega)
      obtain ⟨M, hM⟩ : ∃ M, w7.heap.size = M := ⟨_, rfl⟩
      have HFE := hid (X.elem_fair s.data.toList 16 X.known0 0 (rest s u))
      clear m0 m1 m2 t1 t2 hM
      go_wp2_with fail
      refine cE.mono ?_
      rintro _ w10 (⟨ee, c', r, cs, hx, rfl, hh, hc', hr⟩ | ⟨n, e, hx, rfl, hr⟩)
      rotate_left
      · have HX : Hid (RES = .error (n, e)) := by show _ = _; rw [HE1.out, hx]
        exact leave_fail rfl rfl rfl HX.out hs (HP9.out.grown hr HR4.out)
      have hsuf := (HFE.out.1 _ _ hx).1
      have hpos := rest_pos hsuf hus
      have hre := rest_suf hsuf
      obtain ⟨v, hv⟩ : ∃ v, s.size - r.length = v := ⟨_, rfl⟩
      rw [hv] at hr hpos hre
      have hvs := hpos.2
      have HE2 : Hid (RES = match X.misc (s.size + 1) (rest s v) with
          | .error e => .error e
          | .ok (_, l3) => if l3 = [] then .ok ee else .error (X.bad l3)) := by
        show _ = _
        rw [HE1.out, hx, ← hre]
      obtain ⟨av, kv, rfl, hav, hkv⟩ := hh
      obtain ⟨ava, avc, rfl⟩ := hav.shape
      obtain ⟨kva, kvc, rfl⟩ := hkv.shape
      have hhas : ee.Has w10 (OwnN w10 w9.heap.size none) [.string ee.sp, .string ee.lo, .slice ava (X.E.as ee).length avc, .slice kva ee.ks.length kvc, .string ee.tx, .int .i64 ee.ln, .int .i64 ee.cl] := ⟨_, _, rfl, hav, hkv⟩
      obtain ⟨esp, hesp⟩ : ∃ z, ee.sp = z := ⟨_, rfl⟩
      obtain ⟨elo, helo⟩ : ∃ z, ee.lo = z := ⟨_, rfl⟩
      obtain ⟨etx, hetx⟩ : ∃ z, ee.tx = z := ⟨_, rfl⟩
      obtain ⟨eln, heln⟩ : ∃ z, ee.ln = z := ⟨_, rfl⟩
      obtain ⟨ecl, hecl⟩ : ∃ z, ee.cl = z := ⟨_, rfl⟩
      obtain ⟨avn, havn⟩ : ∃ z, (X.E.as ee).length = z := ⟨_, rfl⟩
      obtain ⟨kvn, hkvn⟩ : ∃ z, ee.ks.length = z := ⟨_, rfl⟩
      rw [hesp, helo, hetx, heln, hecl, havn, hkvn] at hhas ⊢
      have HHAS := hid hhas
      clear hav hkv hhas hesp helo hetx heln hecl havn hkvn
      have HP10 : Hid (PB W H s w10) := HP9.out.grown hr.g HR4.out
      have hr10 := hr.r
      have HSZ : Hid (R < w9.heap.size ∧ w9.heap.size ≤ w10.heap.size) := ⟨Go.lt_of_block H9.out.r, hr.g.size⟩
      obtain ⟨x0, x1, x2, x3, x4, x5, x6, hn10⟩ := HP10.out.n
      obtain ⟨y0, y1, y2, y3, y4, y5, y6⟩ := row7 hn10
      have f0 := rowFree hn10 0
      have f1 := rowFree hn10 1
      have f2 := rowFree hn10 2
      have f3 := rowFree hn10 3
      have f4 := rowFree hn10 4
      have f5 := rowFree hn10 5
      have f6 := rowFree hn10 6
      obtain ⟨w11, hw11⟩ : ∃ w11, st7 w10 (H + 1) (.string esp) (.string elo) (.slice ava avn avc) (.slice kva kvn kvc) (.string etx) (.int .i64 eln) (.int .i64 ecl) = w11 := ⟨_, rfl⟩
      have g11 : w10.grownBy w11 (some (H + 1)) := by rw [← hw11]; exact st7_grown _ _ _ _ _ _ _ _ _
      have HN11 : Hid (w11.heap[H + 1]? = some (.cells #[.string esp, .string elo, .slice ava avn avc, .slice kva kvn kvc, .string etx, .int .i64 eln, .int .i64 ecl] 28 (0, 0))) := by show _ = _; rw [← hw11]; exact st7_row hn10 _ _ _ _ _ _ _
      have HP11 : Hid (PB W H s w11) := HP10.out.setN g11 HN11.out
      have hr11 : w11.heap[R]? = some (mRow s v c') := (g11.block R (Go.lt_of_block hr10) (fun e => by have := Option.some.inj e; have := HR4.out; omega)).trans hr10
      have H11 : Hid (Rd w11 R s v c' w11) := ⟨⟨rfl, rfl, rfl, Nat.le_refl _, fun _ _ _ => rfl⟩, hr11, Go.lt_of_block hr11⟩
      have HFAR11 : Hid (∀ b, w9.heap.size ≤ b → b < w10.heap.size → w11.heap[b]? = w10.heap[b]?) := fun b h1 h2 => g11.block b h2 (fun e => by have := Option.some.inj e; have := HSZ.out; have := HR4.out; omega)
      have HS11 : Hid (w10.heap.size ≤ w11.heap.size) := g11.size
      have cM := misc_any (s.size + 1) (by omega) H11.out.own hvs hs (HG.out.keep HP11.out.b) HRH.out
      have HFM := hid (X.misc_fair (s.size + 1) (rest s v))
      have HW11 : Hid ((((((((w10.setCell ⟨H + 1, 0, none⟩ (.string esp)).setCell ⟨H + 1, 1, none⟩ (.string elo)).setCell ⟨H + 1, 2, none⟩ (.slice ava avn avc)).setCell ⟨H + 1, 3, none⟩ (.slice kva kvn kvc)).setCell ⟨H + 1, 4, none⟩ (.string etx)).setCell ⟨H + 1, 5, none⟩ (.int .i64 eln)).setCell ⟨H + 1, 6, none⟩ (.int .i64 ecl)) = w11) := hw11
      clear hx hr hr10 hr11 hsuf hpos hre hv cE HFE HE1 hn10 g11 hw11 HP10 H9 HP9 HB79 HK9 H7 HP7
      go_upto_region 11 with fail
      rw [HW11.out]
      clear HW11 y0 y1 y2 y3 y4 y5 y6 f0 f1 f2 f3 f4 f5 f6
      go_wp2_with fail
      refine cM.mono ?_
      rintro e w12 (⟨_, r, hx, rfl, hr⟩ | ⟨n, e, hx, rfl, hr⟩)
      rotate_left
      · have HX : Hid (RES = .error (n, e)) := by show _ = _; rw [HE2.out, hx]
        exact leave_fail rfl rfl rfl HX.out hs (HP11.out.grown hr HR4.out)
      have hsuf := (HFM.out.1 _ _ hx).1
      have hpos := rest_pos hsuf hvs
      have hre := rest_suf hsuf
      obtain ⟨x, hxx⟩ : ∃ x, s.size - r.length = x := ⟨_, rfl⟩
      rw [hxx] at hr hpos hre
      have hxs := hpos.2
      have HE3 : Hid (RES = if rest s x = [] then .ok ee else .error (X.bad (rest s x))) := by
        show _ = _
        rw [HE2.out, hx, ← hre]
      have HP12 : Hid (PB W H s w12) := HP11.out.grown hr.g HR4.out
      have HN12 : Hid (w12.heap[H + 1]? = some (.cells #[.string esp, .string elo, .slice ava avn avc, .slice kva kvn kvc, .string etx, .int .i64 eln, .int .i64 ecl] 28 (0, 0))) := (hr.g.block (H + 1) (Go.lt_of_block HN11.out) (fun e => by have := Option.some.inj e; have := HR4.out; omega)).trans HN11.out
      have HFAR12 : Hid (∀ b, w9.heap.size ≤ b → b < w10.heap.size → w12.heap[b]? = w10.heap[b]?) := fun b h1 h2 => (hr.g.block b (by have := HS11.out; omega) (fun e => by have := Option.some.inj e; have := HSZ.out; omega)).trans (HFAR11.out b h1 h2)
      have HS12 : Hid (w10.heap.size ≤ w12.heap.size) := Nat.le_trans HS11.out hr.g.size
      have H12 := hid hr
      have d1 : w12.cell? ⟨R, 1, none⟩ = some (.int .i64 x) := hr.cells.2.1
      have d0 : w12.cell? ⟨H, 0, none⟩ = some (.string s) := rowCell HP12.out.s 0
      have l1 : R < w12.heap.size := Go.lt_of_block hr.r
      have l0 : H < w12.heap.size := Go.lt_of_block HP12.out.s
      have HC1 : Hid (∀ w', Below w12.heap.size w12 w' → w'.cell? ⟨R, 1, none⟩ = some (.int .i64 x)) := fun w' hb => (hb.cell (p := ⟨R, 1, none⟩) l1).trans d1
      have HC0 : Hid (∀ w', Below w12.heap.size w12 w' → w'.cell? ⟨H, 0, none⟩ = some (.string s)) := fun w' hb => (hb.cell (p := ⟨H, 0, none⟩) l0).trans d0
      clear hx hr hsuf hpos hre hxx cM HFM HE2 H11 HP11 HN11 HFAR11 d1 d0 l1 l0 HS11
      go_wp2_with fail
      by_cases hlt : x < s.size
      · have HX : Hid (RES = .error (X.bad (rest s x))) := by
          show _ = _
          rw [HE3.out, if_neg (by rw [rest_nil]; omega)]
        have k0 : decide ((x : Int) < (s.size : Int)) = true := decide_eq_true (by omega)
        have k1 : decide (x < s.size) = true := decide_eq_true hlt
        clear hlt HE3
        refine quiet_lit (C := (fun w1 => Below w12.heap.size w12 w1)) (by kernel_rfl) (by kernel_rfl) ((Below.refl _ _).drew) ?_
        repeat (first
          | go_big_quiet_skip
          | (go_big_quiet_want
             refine quiet_val (x := ?_) (fun vv hC => ?_) ?_
             rotate_left
             · skip
               have c1 := HC1.out _ hC
               have c0 := HC0.out _ hC
               clear hC
               go_simp
               with_reducible rfl
             go_big_quiet_on
             try simp only [Act.put, List.setIfInBounds_toArray, List.set_cons_zero, List.set_cons_succ]))
        refine wpQuiet_nil ?_
        intro vq hq
        have H13 : Hid (Rd w11 R s x c' vq) := H12.out.below hq
        have HP13 : Hid (PB W H s vq) := HP12.out.below hq
        have cB := bad_any H13.out.own hxs
        clear hq
        go_wp2_with fail
        refine cB.mono ?_
        rintro e w14 ⟨rfl, hbl⟩
        exact leave_fail rfl rfl rfl HX.out hs (HP13.out.below hbl)
      · have HX : Hid (RES = .ok ee) := by
          show _ = _
          rw [HE3.out, if_pos ((rest_nil s x).2 (by omega))]
        have k0 : decide ((x : Int) < (s.size : Int)) = false := decide_eq_false (by omega)
        have k1 : decide (x < s.size) = false := decide_eq_false hlt
        clear hlt HE3
        refine quiet_lit (C := (fun w1 => Below w12.heap.size w12 w1)) (by kernel_rfl) (by kernel_rfl) ((Below.refl _ _).drew) ?_
        repeat (first
          | go_big_quiet_skip
          | (go_big_quiet_want
             refine quiet_val (x := ?_) (fun vv hC => ?_) ?_
             rotate_left
             · skip
               have c1 := HC1.out _ hC
               have c0 := HC0.out _ hC
               clear hC
               go_simp
               with_reducible rfl
             go_big_quiet_on
             try simp only [Act.put, List.setIfInBounds_toArray, List.set_cons_zero, List.set_cons_succ]))
        refine wpQuiet_nil ?_
        intro vq hq
        obtain ⟨w13, hw13⟩ : ∃ w13, vq = w13 := ⟨_, rfl⟩
        rw [hw13] at hq ⊢
        have HP13 : Hid (PB W H s w13) := HP12.out.below hq
        have HN13 : Hid (w13.heap[H + 1]? = some (.cells #[.string esp, .string elo, .slice ava avn avc, .slice kva kvn kvc, .string etx, .int .i64 eln, .int .i64 ecl] 28 (0, 0))) := (hq.block (H + 1) (Go.lt_of_block HN12.out)).trans HN12.out
        have HFAR13 : Hid (∀ b, w9.heap.size ≤ b → b < w10.heap.size → w13.heap[b]? = w10.heap[b]?) := fun b h1 h2 => (hq.block b (by have := HS12.out; omega)).trans (HFAR12.out b h1 h2)
        have HS13 : Hid (w10.heap.size ≤ w13.heap.size) := Nat.le_trans HS12.out hq.size
        clear hq hw13 HP12 HN12 HFAR12 HS12 H12
        obtain ⟨p0, p1, hp13⟩ := HP13.out.p
        obtain ⟨e0, he13⟩ := HP13.out.e
        obtain ⟨y0, y1, y2, y3, y4, y5, y6⟩ := row7 HN13.out
        have f0 := rowFree HN13.out 0
        have f1 := rowFree HN13.out 1
        have f2 := rowFree HN13.out 2
        have f3 := rowFree HN13.out 3
        have f4 := rowFree HN13.out 4
        have f5 := rowFree HN13.out 5
        have f6 := rowFree HN13.out 6
        obtain ⟨z0, z1⟩ := row2 hp13
        have fz0 := rowFree hp13 0
        have fz1 := rowFree hp13 1
        have v0 := rowCell he13 0
        have fv0 := rowFree he13 0
        have HP2' := hid hp13
        have HE2' := hid he13
        clear hp13 he13
        go_wp2_with fail
        have ga := st7_grown w13 (H + 1) (.string esp) (.string elo) (.slice ava avn avc) (.slice kva kvn kvc) (.string etx) (.int .i64 eln) (.int .i64 ecl)
        have na := st7_row HN13.out (.string esp) (.string elo) (.slice ava avn avc) (.slice kva kvn kvc) (.string etx) (.int .i64 eln) (.int .i64 ecl)
        have gb := (grownBy_set (st7 w13 (H + 1) (.string esp) (.string elo) (.slice ava avn avc) (.slice kva kvn kvc) (.string etx) (.int .i64 eln) (.int .i64 ecl)) (H + 2) 0 (.int .i64 0)).trans (grownBy_set _ (H + 2) 1 (.int .i64 0))
        have gc := grownBy_set (((st7 w13 (H + 1) (.string esp) (.string elo) (.slice ava avn avc) (.slice kva kvn kvc) (.string etx) (.int .i64 eln) (.int .i64 ecl)).setCell ⟨H + 2, 0, none⟩ (.int .i64 0)).setCell ⟨H + 2, 1, none⟩ (.int .i64 0)) (H + 3) 0 (.int .i64 0)
        have hl13 := HP13.out.lt
        have pa : (st7 w13 (H + 1) (.string esp) (.string elo) (.slice ava avn avc) (.slice kva kvn kvc) (.string etx) (.int .i64 eln) (.int .i64 ecl)).heap[H + 2]? = some (.cells #[p0, p1] 26 (0, 0)) := (ga.block (H + 2) (by omega) (fun e => by have := Option.some.inj e; omega)).trans HP2'.out
        have ea : (st7 w13 (H + 1) (.string esp) (.string elo) (.slice ava avn avc) (.slice kva kvn kvc) (.string etx) (.int .i64 eln) (.int .i64 ecl)).heap[H + 3]? = some (.cells #[e0] 29 (0, 0)) := (ga.block (H + 3) (by omega) (fun e => by have := Option.some.inj e; omega)).trans HE2'.out
        have pb := row_set (row_set pa 0 (.int .i64 0)) 1 (.int .i64 0)
        have eb := (gb.block (H + 3) (by have := ga.size; omega) (fun e => by have := Option.some.inj e; omega)).trans ea
        have ec := row_set eb 0 (.int .i64 0)
        have pc := (gc.block (H + 2) (by have := ga.size; have := gb.size; omega) (fun e => by have := Option.some.inj e; omega)).trans pb
        have nb := (gb.block (H + 1) (by have := ga.size; omega) (fun e => by have := Option.some.inj e; omega)).trans na
        have nc := (gc.block (H + 1) (by have := ga.size; have := gb.size; omega) (fun e => by have := Option.some.inj e; omega)).trans nb
        have hfar : ∀ b, w9.heap.size ≤ b → b < w10.heap.size → (((((st7 w13 (H + 1) (.string esp) (.string elo) (.slice ava avn avc) (.slice kva kvn kvc) (.string etx) (.int .i64 eln) (.int .i64 ecl)).setCell ⟨H + 2, 0, none⟩ (.int .i64 0)).setCell ⟨H + 2, 1, none⟩ (.int .i64 0)).setCell ⟨H + 3, 0, none⟩ (.int .i64 0))).heap[b]? = w10.heap[b]? := by
          intro b h1 h2
          have := HSZ.out
          have := HS13.out
          have := HR4.out
          have sa := ga.size
          have sb := gb.size
          rw [gc.block b (by omega) (fun e => by have := Option.some.inj e; omega), gb.block b (by omega) (fun e => by have := Option.some.inj e; omega), ga.block b (by omega) (fun e => by have := Option.some.inj e; omega)]
          exact HFAR13.out b h1 h2
        exact leave_ok (e := ee) (cs := [.string esp, .string elo, .slice ava avn avc, .slice kva kvn kvc, .string etx, .int .i64 eln, .int .i64 ecl]) rfl rfl rfl HX.out nc rfl pc ec HP13.out.h (X.E.Has.keep (fun b hb => hb.via (hfar b hb.1 hb.2.1) (by have := HSZ.out; have := HR4.out; omega)) (fun b hb => hfar b hb.1 hb.2.1) HHAS.out) (((HP13.out.b.grown ga (by omega) (fun k hk => by have := Option.some.inj hk; omega)).grown gb (by have := ga.size; omega) (fun k hk => by have := Option.some.inj hk; omega)).grown gc (by have := ga.size; have := gb.size; omega) (fun k hk => by have := Option.some.inj hk; omega))
end Go.Proofs.YtakplnceiibmlaaGreatDoor
