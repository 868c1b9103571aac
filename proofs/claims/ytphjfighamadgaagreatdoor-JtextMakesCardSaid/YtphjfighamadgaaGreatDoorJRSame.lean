/- The reference's Same: at two values that are the same. -/
import Derived.Test.YtphjfighamadgaaGreatDoorJA7
namespace Go.Proofs.YtphjfighamadgaaGreatDoor
open Go.RowKit
open Go.Lib (hid)
theorem J.SIn.place {w : World} {P : Nat → Prop} {ns : List ByteArray} {a : Option Addr} {c : Nat} (h : J.SIn w P ns (.slice a ns.length c)) : ∃ g o, (0 < ns.length → a = some ⟨g, o, none⟩ ∧ ns.length ≤ c) ∧ ∀ j x, ns[j]? = some x → P g ∧ w.cell? ⟨g, o + j, none⟩ = some (.string x) := by
  rcases h with ⟨h, _⟩ | ⟨h0, g, o, c', h1, h2, h3, h4⟩
  · subst h
    exact ⟨0, 0, fun hne => by simp at hne, fun j x hj => by simp at hj⟩
  · simp only [Value.slice.injEq] at h1
    obtain ⟨rfl, _, rfl⟩ := h1
    exact ⟨g, o, fun _ => ⟨rfl, h3⟩, fun j x hj => ⟨h2, h4 j x hj⟩⟩
/-- two boxes of the call's own; what they hold, twice -/
structure AQ (w : World) (P : Nat → Prop) (O1 O2 : Obj) (t : J.T) (g1 o1 g2 o2 : Nat) (ns : List ByteArray) (m1 p1 m2 p2 : Nat) (W : World) : Prop where
  v1 : W.heap[w.heap.size]? = some O1
  v2 : W.heap[w.heap.size + 1]? = some O2
  c1 : t ≠ .nil → t.At W P g1 o1
  c2 : t ≠ .nil → t.At W P g2 o2
  n1 : ∀ j x, ns[j]? = some x → P m1 ∧ W.cell? ⟨m1, p1 + j, none⟩ = some (.string x)
  n2 : ∀ j x, ns[j]? = some x → P m2 ∧ W.cell? ⟨m2, p2 + j, none⟩ = some (.string x)
  b : Below w.heap.size w W
theorem AQ.after {w W W' : World} {P : Nat → Prop} {O1 O2 : Obj} {t : J.T} {g1 o1 g2 o2 : Nat} {ns : List ByteArray} {m1 p1 m2 p2 : Nat} (h : AQ w P O1 O2 t g1 o1 g2 o2 ns m1 p1 m2 p2 W) (hP : ∀ b, P b → b < w.heap.size) (hb : Below W.heap.size W W') : AQ w P O1 O2 t g1 o1 g2 o2 ns m1 p1 m2 p2 W' :=
  have hs := h.b.size
  have hk : ∀ b, P b → W'.heap[b]? = W.heap[b]? := fun b hb' => hb.block b (Nat.lt_of_lt_of_le (hP b hb') hs)
  ⟨by rw [hb.block _ (Go.lt_of_block h.v1)]; exact h.v1, by rw [hb.block _ (Go.lt_of_block h.v2)]; exact h.v2, fun hne => J.T.At.keep (fun _ h => h) hk _ _ _ (h.c1 hne), fun hne => J.T.At.keep (fun _ h => h) hk _ _ _ (h.c2 hne),
    fun j x hj => ⟨(h.n1 j x hj).1, by rw [World.cell?_of_block (w := W) (hk m1 (h.n1 j x hj).1)]; exact (h.n1 j x hj).2⟩, fun j x hj => ⟨(h.n2 j x hj).1, by rw [World.cell?_of_block (w := W) (hk m2 (h.n2 j x hj).1)]; exact (h.n2 j x hj).2⟩, h.b.trans (hb.mono hs)⟩
/-- the first of values that stand somewhere: its cells; the rest -/
theorem J.T.At.head {W : World} {P : Nat → Prop} {k : Nat} {b : Bool} {n : Int} {s : ByteArray} {l : J.T} {ns : List ByteArray} {r : J.T} {g o : Nat} (h : (J.T.cons k b n s l ns r).At W P g o) :
    ∃ (al : Option Addr) (cl : Nat) (an : Option Addr) (cn : Nat), W.cell? ⟨g, o, none⟩ = some (.int .u8 k) ∧ W.cell? ⟨g, o + 1, none⟩ = some (.bool b) ∧ W.cell? ⟨g, o + 2, none⟩ = some (.int .i64 n) ∧ W.cell? ⟨g, o + 3, none⟩ = some (.string s) ∧ W.cell? ⟨g, o + 4, none⟩ = some (.slice al l.length cl) ∧ W.cell? ⟨g, o + 5, none⟩ = some (.slice an ns.length cn) ∧
      (⟨k, b, n, s, l, ns⟩ : J.V).Has W P [.int .u8 k, .bool b, .int .i64 n, .string s, .slice al l.length cl, .slice an ns.length cn] ∧ r.At W P g (o + 6) := by
  obtain ⟨_, h0, h1, h2, h3, ⟨lv, h4, hl⟩, ⟨nv, h5, hn⟩, hr⟩ := h
  have hl' : l.In W P lv := by
    rcases hl with hl | ⟨g', o', c, h6, h7, h8, h9⟩
    · exact Or.inl hl
    · exact Or.inr ⟨g', o', c, h6, h7, h8, h9⟩
  obtain ⟨al, cl, rfl⟩ := hl'.shape
  obtain ⟨an, cn, rfl⟩ := hn.shape
  exact ⟨al, cl, an, cn, h0, h1, h2, h3, h4, h5, ⟨_, _, rfl, hl', hn⟩, hr⟩
def SameC (x : J.V) : Prop := x.small → ∀ (w : World) (P : Nat → Prop) (cs cs' : List Value), x.Has w P cs → x.Has w P cs' → (∀ b, P b → b < w.heap.size) → Calls Tryz.prog 11 #[.agg cs.toArray, .agg cs'.toArray] w fun e w' => e = .returned (.bool true) ∧ Below w.heap.size w w'
set_option maxRecDepth 100000 in
set_option maxHeartbeats 4000000 in
theorem same_step (x : J.V) (hall : x.l.All SameC) : SameC x := by
  obtain ⟨k, b, n, s, l, ns⟩ := x
  intro hsm w P cs cs' hhas hhas' hPP
  obtain ⟨hs1, hs2, hs3⟩ := hsm
  obtain ⟨lv, nv, rfl, hl, hn⟩ := hhas
  obtain ⟨lv', nv', rfl, hl', hn'⟩ := hhas'
  have hl : l.In w P lv := hl
  have hn : J.SIn w P ns nv := hn
  have hl' : l.In w P lv' := hl'
  have hn' : J.SIn w P ns nv' := hn'
  obtain ⟨la, lc, rfl⟩ := hl.shape
  obtain ⟨na, nc, rfl⟩ := hn.shape
  obtain ⟨la', lc', rfl⟩ := hl'.shape
  obtain ⟨na', nc', rfl⟩ := hn'.shape
  obtain ⟨g, o, hgo⟩ := in_addr hl
  obtain ⟨g', o', hgo'⟩ := in_addr hl'
  obtain ⟨m, p, hmp, hna⟩ := hn.place
  obtain ⟨m', p', hmp', hna'⟩ := hn'.place
  simp only at hs1 hs2 hs3
  obtain ⟨len, hle⟩ : ∃ len, l.length = len := ⟨_, rfl⟩
  obtain ⟨nn, hnn⟩ : ∃ nn, ns.length = nn := ⟨_, rfl⟩
  obtain ⟨w1, hw1⟩ : ∃ w1, (w.alloc (.cells #[.int .u8 k, .bool b, .int .i64 n, .string s, .slice la len lc, .slice na nn nc] 25)).alloc (.cells #[.int .u8 k, .bool b, .int .i64 n, .string s, .slice la' len lc', .slice na' nn nc'] 25) = w1 := ⟨_, rfl⟩
  have hb1 : Below w.heap.size w w1 := by rw [← hw1]; exact ((Below.refl _ w).alloc (Nat.le_refl _) _).alloc (by simp) _
  have hv1 : w1.heap[w.heap.size]? = some (.cells #[.int .u8 k, .bool b, .int .i64 n, .string s, .slice la len lc, .slice na nn nc] 25 (0, 0)) := by rw [← hw1, Lib.alloc_old _ _ _ (by simp)]; exact heap_alloc_new w _
  have hv2 : w1.heap[w.heap.size + 1]? = some (.cells #[.int .u8 k, .bool b, .int .i64 n, .string s, .slice la' len lc', .slice na' nn nc'] 25 (0, 0)) := by
    rw [← hw1]
    have := heap_alloc_new (w.alloc (.cells #[.int .u8 k, .bool b, .int .i64 n, .string s, .slice la len lc, .slice na nn nc] 25)) (.cells #[.int .u8 k, .bool b, .int .i64 n, .string s, .slice la' len lc', .slice na' nn nc'] 25)
    rw [show (w.alloc (.cells #[.int .u8 k, .bool b, .int .i64 n, .string s, .slice la len lc, .slice na nn nc] 25)).heap.size = w.heap.size + 1 by simp] at this
    exact this
  have hk1 : ∀ b, P b → w1.heap[b]? = w.heap[b]? := fun b hb => hb1.block b (hPP b hb)
  have HT : Hid (AQ w P (.cells #[.int .u8 k, .bool b, .int .i64 n, .string s, .slice la len lc, .slice na nn nc] 25 (0, 0)) (.cells #[.int .u8 k, .bool b, .int .i64 n, .string s, .slice la' len lc', .slice na' nn nc'] 25 (0, 0)) l g (o + 0 * 6) g' (o' + 0 * 6) ns m p m' p' w1) :=
    ⟨hv1, hv2, fun hne => by rw [Nat.zero_mul, Nat.add_zero]; exact J.T.At.keep (fun _ h => h) hk1 _ _ _ (hgo hne).2.2, fun hne => by rw [Nat.zero_mul, Nat.add_zero]; exact J.T.At.keep (fun _ h => h) hk1 _ _ _ (hgo' hne).2.2,
      fun j x hj => ⟨(hna j x hj).1, by rw [World.cell?_of_block (w := w) (hk1 m (hna j x hj).1)]; exact (hna j x hj).2⟩, fun j x hj => ⟨(hna' j x hj).1, by rw [World.cell?_of_block (w := w) (hk1 m' (hna' j x hj).1)]; exact (hna' j x hj).2⟩, hb1⟩
  have HGO := hid hgo
  have HGO' := hid hgo'
  have HMP := hid hmp
  have HMP' := hid hmp'
  rw [hle] at HGO HGO' hs1 ⊢
  rw [hnn] at HMP HMP' hs2 ⊢
  have HW1 := hid hw1
  have HLE := hid hle
  have HNN := hid hnn
  have HPP := hid hPP
  have HALL := hid hall
  have HSM := hid hs3
  obtain ⟨x0, x1, x2, x3, x4, x5⟩ := x6_of HT.out.v1
  obtain ⟨y0, y1, y2, y3, y4, y5⟩ := x6_of HT.out.v2
  clear hl hn hl' hn' hgo hgo' hmp hmp' hna hna' hb1 hv1 hv2 hk1 hw1 hle hnn hPP hall hs3
  have tk : ((k : Int) != (k : Int)) = false := by simp
  have tb : (b != b) = false := by simp
  have tn : (n != n) = false := by simp
  go_enter Tryz.func11, Tryz.ntmps11
  go_upto_region 1 with fail
  rw [HW1.out]
  clear HW1
  go_upto_region 4 with fail
  clear x0 x1 x2 x3 x4 x5 y0 y1 y2 y3 y4 y5 tk tb tn
  go_loopw [5] (fun vi wr => ∃ (i : Nat), i ≤ len ∧ vi = .int .i64 i ∧ ∃ (t1 t2 : J.T), Hid (t1.app t2 = l ∧ t1.length = i) ∧ Hid (AQ w P (.cells #[.int .u8 k, .bool b, .int .i64 n, .string s, .slice la len lc, .slice na nn nc] 25 (0, 0)) (.cells #[.int .u8 k, .bool b, .int .i64 n, .string s, .slice la' len lc', .slice na' nn nc'] 25 (0, 0)) t2 g (o + i * 6) g' (o' + i * 6) ns m p m' p' wr)) (fun vi _ => len - (intOf vi).toNat)
  case atStart => exact ⟨0, Nat.zero_le _, rfl, .nil, l, hid ⟨rfl, rfl⟩, HT⟩
  case round =>
    obtain ⟨i, hi, rfl, t1, t2, HA, HI⟩ := hrel
    clear HT
    obtain ⟨x0, x1, x2, x3, x4, x5⟩ := x6_of HI.out.v1
    obtain ⟨y0, y1, y2, y3, y4, y5⟩ := x6_of HI.out.v2
    by_cases hlt : i < len
    · have d0 : decide ((i : Int) < (len : Int)) = true := decide_eq_true (by omega)
      have d1 : decide (i < len) = true := decide_eq_true (by omega)
      have hlen2 : t1.length + t2.length = len := by rw [← HLE.out, ← HA.out.1, J.T.app_length]
      cases t2 with
      | nil => have := HA.out.2; simp [J.T.length] at hlen2; omega
      | cons k1 b1 v1 s1 l1 ns1 r =>
        obtain ⟨al, cl, an, cn, u0, u1, u2, u3, u4, u5, hh, hr⟩ := (HI.out.c1 (fun h => by cases h)).head
        obtain ⟨al', cl', an', cn', z0, z1, z2, z3, z4, z5, hh', hr'⟩ := (HI.out.c2 (fun h => by cases h)).head
        have hlne : l ≠ .nil := fun h => by have := HLE.out; rw [h] at this; simp [J.T.length] at this; omega
        obtain ⟨hga, hgc, -⟩ := HGO.out hlne
        obtain ⟨hga', hgc', -⟩ := HGO'.out hlne
        subst hga
        subst hga'
        have HC := hid (show SameC ⟨k1, b1, v1, s1, l1, ns1⟩ from (J.T.All.app (p := SameC) t1 (.cons k1 b1 v1 s1 l1 ns1 r) (by rw [HA.out.1]; exact HALL.out)).2.1)
        have HES := hid (show J.V.small ⟨k1, b1, v1, s1, l1, ns1⟩ from (J.T.small_app t1 (.cons k1 b1 v1 s1 l1 ns1 r) (by rw [HA.out.1]; exact HSM.out)).2.1)
        have HRE : Hid (AQ w P (.cells #[.int .u8 k, .bool b, .int .i64 n, .string s, .slice (some ⟨g, o, none⟩) len lc, .slice na nn nc] 25 (0, 0)) (.cells #[.int .u8 k, .bool b, .int .i64 n, .string s, .slice (some ⟨g', o', none⟩) len lc', .slice na' nn nc'] 25 (0, 0)) r g (o + i * 6 + 6) g' (o' + i * 6 + 6) ns m p m' p' wr) :=
          ⟨HI.out.v1, HI.out.v2, fun _ => hr, fun _ => hr', HI.out.n1, HI.out.n2, HI.out.b⟩
        have hi0 : (0 : Int) ≤ (i : Int) := by omega
        have hi1 : (i : Int) < (len : Int) := by omega
        clear hr hr' hlen2 hlne
        have HCE : Hid (∀ W : World, W.heap = wr.heap → ∀ (g i : Nat), W.cell? ⟨g, i, none⟩ = wr.cell? ⟨g, i, none⟩) := fun W h g i => World.cell?_of_block (w := wr) (by rw [h])
        go_upto_region 6 with fail
        refine wp_region_till (S := (fun W : World => W.heap = wr.heap)) 10 (by kernel_rfl) ?_
        have HS := hid (show ((fun W : World => W.heap = wr.heap)) _ from rfl)
        refine wpTill_any 0 (oi := ?oi1) (v := ?v1) ?ho1 (by kernel_rfl) (by kernel_rfl) (by kernel_rfl) (by kernel_rfl) ?hq1 (Or.inl ⟨?hw1, ?hy1⟩) (fun _ => HS.out) ?rest1
        case ho1 => simp only [List.getElem?_toArray, List.getElem?_cons_zero]; rfl
        case hw1 => rfl
        case hy1 => intro w; go_simp; try with_reducible rfl
        case hq1 => exact fun _ _ _ h => h
        try simp only [Act.put, List.setIfInBounds_toArray, List.set_cons_zero, List.set_cons_succ]
        refine wpTill_any 2 (oi := ?oi2) (v := ?v2) ?ho2 (by kernel_rfl) (by kernel_rfl) (by kernel_rfl) (by kernel_rfl) ?hq2 (Or.inl ⟨?hw2, ?hy2⟩) (fun _ => HS.out) ?rest2
        case ho2 => simp only [List.getElem?_toArray, List.getElem?_cons_succ, List.getElem?_cons_zero]; rfl
        case hw2 => rfl
        case hy2 => intro w; go_simp; try with_reducible rfl
        case hq2 => exact fun _ _ _ h => h
        try simp only [Act.put, List.setIfInBounds_toArray, List.set_cons_zero, List.set_cons_succ]
        refine wpTill_any 5 (oi := ?oi3) (v := ?v3) ?ho3 (by kernel_rfl) (by kernel_rfl) (by kernel_rfl) (by kernel_rfl) ?hq3 (Or.inl ⟨?hw3, ?hy3⟩) (fun _ => HS.out) ?rest3
        case ho3 => simp only [List.getElem?_toArray, List.getElem?_cons_succ, List.getElem?_cons_zero]; rfl
        case hw3 => rfl
        case hy3 => intro w; go_simp; try with_reducible rfl
        case hq3 => exact fun _ _ _ h => h
        try simp only [Act.put, List.setIfInBounds_toArray, List.set_cons_zero, List.set_cons_succ]
        refine wpTill_any 7 (oi := ?oi4) (v := ?v4) ?ho4 (by kernel_rfl) (by kernel_rfl) (by kernel_rfl) (by kernel_rfl) ?hq4 (Or.inl ⟨?hw4, ?hy4⟩) (fun _ => HS.out) ?rest4
        case ho4 => simp only [List.getElem?_toArray, List.getElem?_cons_succ, List.getElem?_cons_zero]; rfl
        case hw4 => rfl
        case hy4 => intro w; go_simp; try with_reducible rfl
        case hq4 => exact fun _ _ _ h => h
        try simp only [Act.put, List.setIfInBounds_toArray, List.set_cons_zero, List.set_cons_succ]
        refine wpTill_load 1 [1, 3, 4, 10] (oi := ?oi5) (v := ?v5) ?ho5 (by kernel_rfl) (by kernel_rfl) (by kernel_rfl) (by kernel_rfl) ?hq5 (Or.inl ⟨?hw5, ?hy5⟩) HS.out ?rest5
        case ho5 => simp only [List.getElem?_toArray, List.getElem?_cons_succ, List.getElem?_cons_zero]; rfl
        case hw5 => rfl
        case hy5 =>
          intro w hSw
          have x4' := (HCE.out w hSw _ _ ).trans x4
          clear hSw
          go_simp
          try with_reducible rfl
        case hq5 => exact fun _ _ _ h => h
        try simp only [Act.put, List.setIfInBounds_toArray, List.set_cons_zero, List.set_cons_succ]
        refine wpTill_any 3 (oi := ?oi6) (v := ?v6) ?ho6 (by kernel_rfl) (by kernel_rfl) (by kernel_rfl) (by kernel_rfl) ?hq6 (Or.inl ⟨?hw6, ?hy6⟩) (fun _ => HS.out) ?rest6
        case ho6 => simp only [List.getElem?_toArray, List.getElem?_cons_succ, List.getElem?_cons_zero]; rfl
        case hw6 => rfl
        case hy6 => intro w; go_simp; try with_reducible rfl
        case hq6 => exact fun _ _ _ h => h
        try simp only [Act.put, List.setIfInBounds_toArray, List.set_cons_zero, List.set_cons_succ]
        refine wpTill_load 4 [4, 10] (oi := ?oi7) (v := ?v7) ?ho7 (by kernel_rfl) (by kernel_rfl) (by kernel_rfl) (by kernel_rfl) ?hq7 (Or.inl ⟨?hw7, ?hy7⟩) HS.out ?rest7
        case ho7 => simp only [List.getElem?_toArray, List.getElem?_cons_succ, List.getElem?_cons_zero]; rfl
        case hw7 => rfl
        case hy7 =>
          intro w hSw
          have u0' := (HCE.out w hSw _ _ ).trans u0
          have u1' := (HCE.out w hSw _ _ ).trans u1
          have u2' := (HCE.out w hSw _ _ ).trans u2
          have u3' := (HCE.out w hSw _ _ ).trans u3
          have u4' := (HCE.out w hSw _ _ ).trans u4
          have u5' := (HCE.out w hSw _ _ ).trans u5
          clear hSw
          go_simp
          try with_reducible rfl
        case hq7 => exact fun _ _ _ h => h
        try simp only [Act.put, List.setIfInBounds_toArray, List.set_cons_zero, List.set_cons_succ]
        refine wpTill_load 6 [6, 8, 9, 10] (oi := ?oi8) (v := ?v8) ?ho8 (by kernel_rfl) (by kernel_rfl) (by kernel_rfl) (by kernel_rfl) ?hq8 (Or.inl ⟨?hw8, ?hy8⟩) HS.out ?rest8
        case ho8 => simp only [List.getElem?_toArray, List.getElem?_cons_succ, List.getElem?_cons_zero]; rfl
        case hw8 => rfl
        case hy8 =>
          intro w hSw
          have y4' := (HCE.out w hSw _ _ ).trans y4
          clear hSw
          go_simp
          try with_reducible rfl
        case hq8 => exact fun _ _ _ h => h
        try simp only [Act.put, List.setIfInBounds_toArray, List.set_cons_zero, List.set_cons_succ]
        refine wpTill_any 8 (oi := ?oi9) (v := ?v9) ?ho9 (by kernel_rfl) (by kernel_rfl) (by kernel_rfl) (by kernel_rfl) ?hq9 (Or.inl ⟨?hw9, ?hy9⟩) (fun _ => HS.out) ?rest9
        case ho9 => simp only [List.getElem?_toArray, List.getElem?_cons_succ, List.getElem?_cons_zero]; rfl
        case hw9 => rfl
        case hy9 => intro w; go_simp; try with_reducible rfl
        case hq9 => exact fun _ _ _ h => h
        try simp only [Act.put, List.setIfInBounds_toArray, List.set_cons_zero, List.set_cons_succ]
        refine wpTill_load 9 [9, 10] (oi := ?oi10) (v := ?v10) ?ho10 (by kernel_rfl) (by kernel_rfl) (by kernel_rfl) (by kernel_rfl) ?hq10 (Or.inl ⟨?hw10, ?hy10⟩) HS.out ?rest10
        case ho10 => simp only [List.getElem?_toArray, List.getElem?_cons_succ, List.getElem?_cons_zero]; rfl
        case hw10 => rfl
        case hy10 =>
          intro w hSw
          have z0' := (HCE.out w hSw _ _ ).trans z0
          have z1' := (HCE.out w hSw _ _ ).trans z1
          have z2' := (HCE.out w hSw _ _ ).trans z2
          have z3' := (HCE.out w hSw _ _ ).trans z3
          have z4' := (HCE.out w hSw _ _ ).trans z4
          have z5' := (HCE.out w hSw _ _ ).trans z5
          clear hSw
          go_simp
          try with_reducible rfl
        case hq10 => exact fun _ _ _ h => h
        try simp only [Act.put, List.setIfInBounds_toArray, List.set_cons_zero, List.set_cons_succ]
        refine wpTill_ready (rs := [10]) (by kernel_rfl) (by decide) ?_
        refine AllTill.consH (o := ?oi11) ?ho11 (fun K hK => ?step11) ?more11
        case ho11 => simp only [List.getElem?_toArray, List.getElem?_cons_succ, List.getElem?_cons_zero]; rfl
        case step11 =>
          go_simp
          refine (HC.out HES.out wr.drew P _ _ (J.V.Has.keep (w := wr) (w' := wr.drew) (fun _ h => h) (fun _ _ => rfl) hh) (J.V.Has.keep (w := wr) (w' := wr.drew) (fun _ h => h) (fun _ _ => rfl) hh') (fun j hj => Nat.lt_of_lt_of_le (HPP.out j hj) HI.out.b.size)).mono ?_
          rintro e w6 ⟨rfl, hb6⟩
          have HR6 := hid (HRE.out.after HPP.out (from_drew hb6))
          clear hb6 hh hh'
          try dsimp only
          refine hK.out _ _ (fun hk => by cases (show true = false from hk)) (fun _ => ?_)
          clear hK K
          try simp only [Act.put, List.setIfInBounds_toArray, List.set_cons_zero, List.set_cons_succ]
          refine wpTill_any 11 (oi := ?oi12) (v := ?v12) ?ho12 (by kernel_rfl) (by kernel_rfl) (by kernel_rfl) (by kernel_rfl) ?hq12 (Or.inl ⟨?hw12, ?hy12⟩) (fun hk => by cases (show true = false from hk)) ?rest12
          case ho12 => simp only [List.getElem?_toArray, List.getElem?_cons_succ, List.getElem?_cons_zero]; rfl
          case hw12 => rfl
          case hy12 => intro w; go_simp; try with_reducible rfl
          case hq12 => exact fun _ _ _ h => h
          try simp only [Act.put, List.setIfInBounds_toArray, List.set_cons_zero, List.set_cons_succ]
          refine wpTill_done (by kernel_rfl) ?_ _
          clear u0 u1 u2 u3 u4 u5 z0 z1 z2 z3 z4 z5 x0 x1 x2 x3 x4 x5 y0 y1 y2 y3 y4 y5
          go_wp2_with fail
          go_roundw
          case rel =>
            refine ⟨i + 1, by omega, by go_num, t1.snoc ⟨k1, b1, v1, s1, l1, ns1⟩, r, hid ⟨?_, ?_⟩, by rw [show o + (i + 1) * 6 = o + i * 6 + 6 by omega, show o' + (i + 1) * 6 = o' + i * 6 + 6 by omega]; exact HR6⟩
            · rw [← HA.out.1]; unfold J.T.snoc; rw [J.T.app_assoc]; rfl
            · rw [J.T.snoc_length, HA.out.2]
          case measure => simp [intOf]; omega
        case more11 =>
          exact AllTill.nil
    · have d0 : decide ((i : Int) < (len : Int)) = false := decide_eq_false (by omega)
      have d1 : decide (i < len) = false := decide_eq_false (by omega)
      have HB : Hid (AQ w P (.cells #[.int .u8 k, .bool b, .int .i64 n, .string s, .slice la len lc, .slice na nn nc] 25 (0, 0)) (.cells #[.int .u8 k, .bool b, .int .i64 n, .string s, .slice la' len lc', .slice na' nn nc'] 25 (0, 0)) .nil 0 0 0 0 ns m p m' p' wr) := ⟨HI.out.v1, HI.out.v2, fun h => absurd rfl h, fun h => absurd rfl h, HI.out.n1, HI.out.n2, HI.out.b⟩
      clear HI HA hlt
      go_upto_region 9 with fail
      clear x0 x1 x2 x3 x4 x5 y0 y1 y2 y3 y4 y5 d0 d1 hi
      go_loopw [6] (fun vi wr => ∃ (i : Nat), i ≤ nn ∧ vi = .int .i64 i ∧ Hid (AQ w P (.cells #[.int .u8 k, .bool b, .int .i64 n, .string s, .slice la len lc, .slice na nn nc] 25 (0, 0)) (.cells #[.int .u8 k, .bool b, .int .i64 n, .string s, .slice la' len lc', .slice na' nn nc'] 25 (0, 0)) .nil 0 0 0 0 ns m p m' p' wr)) (fun vi _ => nn - (intOf vi).toNat)
      case atStart => exact ⟨0, Nat.zero_le _, rfl, HB⟩
      case round =>
        obtain ⟨j, hj, rfl, HI⟩ := hrel
        clear HB
        obtain ⟨x0, x1, x2, x3, x4, x5⟩ := x6_of HI.out.v1
        obtain ⟨y0, y1, y2, y3, y4, y5⟩ := x6_of HI.out.v2
        by_cases hlt : j < nn
        · have d0 : decide ((j : Int) < (nn : Int)) = true := decide_eq_true (by omega)
          have d1 : decide (j < nn) = true := decide_eq_true (by omega)
          obtain ⟨nm, hnm⟩ : ∃ nm, ns[j]? = some nm := ⟨_, List.getElem?_eq_getElem (by have := HNN.out; omega)⟩
          obtain ⟨hma, hmc⟩ := HMP.out (by omega)
          obtain ⟨hma', hmc'⟩ := HMP'.out (by omega)
          subst hma
          subst hma'
          have u0 := (HI.out.n1 j nm hnm).2
          have u1 := (HI.out.n2 j nm hnm).2
          have hj0 : (0 : Int) ≤ (j : Int) := by omega
          have hj1 : (j : Int) < (nn : Int) := by omega
          clear hnm
          go_upto_region 11 with fail
          go_quiet (fail)
          go_wp2_with fail
          go_roundw
          case rel => exact ⟨j + 1, by omega, by go_num, hid (HI.out.after HPP.out (below_drewN (Below.refl _ wr) _))⟩
          case measure => simp [intOf]; omega
        · have d0 : decide ((j : Int) < (nn : Int)) = false := decide_eq_false (by omega)
          have d1 : decide (j < nn) = false := decide_eq_false (by omega)
          clear hlt hj
          go_wp2_with fail
          go_ret
          exact ⟨rfl, HI.out.b⟩
theorem rsame_any (x : J.V) : SameC x := J.V.of same_step x
end Go.Proofs.YtphjfighamadgaaGreatDoor
