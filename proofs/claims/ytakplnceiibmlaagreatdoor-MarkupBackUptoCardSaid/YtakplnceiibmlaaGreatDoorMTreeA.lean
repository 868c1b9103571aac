/- The reference Same; trees in memory; plain: the two texts are read as the tree. -/
import Derived.Test.YtakplnceiibmlaaGreatDoorMBackA
import Derived.Test.YtakplnceiibmlaaGreatDoorMMem
import Derived.Test.YtakplnceiibmlaaGreatDoorTill
import Derived.Test.YtakplnceiibmlaaGreatDoorVQuiet
import Derived.Laws.StructEq
import Derived.Lib.LazyBuf
import Derived.Test.YtakplnceiibmlaaGreatDoorMEsc
namespace Go.Proofs.YtakplnceiibmlaaGreatDoor
open Go.RowKit
open Go.Lib (hid)
namespace X
def N.All (p : E → Prop) : N → Prop
  | .nil => True
  | .cons sp lo al ks tx ln cl r => p ⟨sp, lo, al, ks, tx, ln, cl⟩ ∧ r.All p
theorem N.all_of {p : E → Prop} (h : ∀ x : E, x.ks.All p → p x) : ∀ t : N, t.All p
  | .nil => trivial
  | .cons sp lo al ks tx ln cl r => ⟨h ⟨sp, lo, al, ks, tx, ln, cl⟩ (N.all_of h ks), N.all_of h r⟩
theorem E.of {p : E → Prop} (h : ∀ x : E, x.ks.All p → p x) (x : E) : p x := h x (N.all_of h x.ks)
/-- no list is longer than so -/
def N.small : N → Prop
  | .nil => True
  | .cons _ _ al ks _ _ _ r => (al.length ≤ 100000000000 ∧ ks.length ≤ 100000000000 ∧ ks.small) ∧ r.small
theorem Alike.len : ∀ {a b : N}, Alike a b → a.length = b.length
  | .nil, .nil, _ => rfl
  | .cons _ _ _ _ _ _ _ r, .cons _ _ _ _ _ _ _ r', h => by
    show r.length + 1 = r'.length + 1
    rw [Alike.len h.2.2]
  | .nil, .cons _ _ _ _ _ _ _ _, h => h.elim
  | .cons _ _ _ _ _ _ _ _, .nil, h => h.elim
theorem AIn.place {w : World} {P : Nat → Prop} {al : List A} {a : Option Addr} {c : Nat} (h : AIn w P al (.slice a al.length c)) : ∃ g o, (0 < al.length → a = some ⟨g, o, none⟩ ∧ al.length ≤ c) ∧ ∀ j u, (attrsC al)[j]? = some u → P g ∧ w.cell? ⟨g, o + j, none⟩ = some u := by
  rcases h with ⟨h, _⟩ | ⟨h0, g, o, c', h1, h2, h3, h4⟩
  · subst h
    exact ⟨0, 0, fun hne => by simp at hne, fun j x hj => by simp [attrsC] at hj⟩
  · simp only [Value.slice.injEq] at h1
    obtain ⟨rfl, _, rfl⟩ := h1
    exact ⟨g, o, fun _ => ⟨rfl, h3⟩, fun j x hj => ⟨h2, h4 j x hj⟩⟩
theorem N.In.addr {w : World} {P : Nat → Prop} {l : N} {a : Option Addr} {c : Nat} (h : l.In w P (.slice a l.length c)) : ∃ g o, l ≠ .nil → a = some ⟨g, o, none⟩ ∧ l.length ≤ c ∧ l.At w P g o := by
  rcases h with ⟨h, _⟩ | ⟨g, o, c', h1, h2, h3, h4⟩
  · exact ⟨0, 0, fun hne => absurd h hne⟩
  · simp only [Value.slice.injEq] at h1
    obtain ⟨rfl, _, rfl⟩ := h1
    exact ⟨g, o, fun _ => ⟨rfl, h2, h4⟩⟩
end X
theorem row7s {X : Nat} {c0 c1 c2 c3 c4 c5 c6 : Value} {W : World} {E : TypeId} (h : W.heap[X]? = some (.cells #[c0, c1, c2, c3, c4, c5, c6] E (0, 0))) :
    W.cell? ⟨X, 0, none⟩ = some c0 ∧ W.cell? ⟨X, 1, none⟩ = some c1 ∧ W.cell? ⟨X, 2, none⟩ = some c2 ∧ W.cell? ⟨X, 3, none⟩ = some c3 ∧ W.cell? ⟨X, 4, none⟩ = some c4 ∧ W.cell? ⟨X, 5, none⟩ = some c5 ∧ W.cell? ⟨X, 6, none⟩ = some c6 :=
  ⟨rowCell h 0, rowCell h 1, rowCell h 2, rowCell h 3, rowCell h 4, rowCell h 5, rowCell h 6⟩
/-- two boxes of the call's own; what they hold, twice -/
structure AQ (w : World) (P : Nat → Prop) (O1 O2 : Obj) (t t' : X.N) (g1 o1 g2 o2 : Nat) (ns : List X.A) (m1 p1 m2 p2 : Nat) (W : World) : Prop where
  v1 : W.heap[w.heap.size]? = some O1
  v2 : W.heap[w.heap.size + 1]? = some O2
  c1 : t ≠ .nil → t.At W P g1 o1
  c2 : t' ≠ .nil → t'.At W P g2 o2
  n1 : ∀ j u, (attrsC ns)[j]? = some u → P m1 ∧ W.cell? ⟨m1, p1 + j, none⟩ = some u
  n2 : ∀ j u, (attrsC ns)[j]? = some u → P m2 ∧ W.cell? ⟨m2, p2 + j, none⟩ = some u
  b : Below w.heap.size w W
theorem AQ.after {w W W' : World} {P : Nat → Prop} {O1 O2 : Obj} {t t' : X.N} {g1 o1 g2 o2 : Nat} {ns : List X.A} {m1 p1 m2 p2 : Nat} (h : AQ w P O1 O2 t t' g1 o1 g2 o2 ns m1 p1 m2 p2 W) (hP : ∀ b, P b → b < w.heap.size) (hb : Below W.heap.size W W') : AQ w P O1 O2 t t' g1 o1 g2 o2 ns m1 p1 m2 p2 W' :=
  have hs := h.b.size
  have hk : ∀ b, P b → W'.heap[b]? = W.heap[b]? := fun b hb' => hb.block b (Nat.lt_of_lt_of_le (hP b hb') hs)
  ⟨by rw [hb.block _ (Go.lt_of_block h.v1)]; exact h.v1, by rw [hb.block _ (Go.lt_of_block h.v2)]; exact h.v2, fun hne => X.N.At.keep (fun _ h => h) hk _ _ _ (h.c1 hne), fun hne => X.N.At.keep (fun _ h => h) hk _ _ _ (h.c2 hne),
    fun j x hj => ⟨(h.n1 j x hj).1, by rw [World.cell?_of_block (w := W) (hk m1 (h.n1 j x hj).1)]; exact (h.n1 j x hj).2⟩, fun j x hj => ⟨(h.n2 j x hj).1, by rw [World.cell?_of_block (w := W) (hk m2 (h.n2 j x hj).1)]; exact (h.n2 j x hj).2⟩, h.b.trans (hb.mono hs)⟩
/-- the first of elements that stand somewhere: its cells; the rest -/
theorem X.N.At.head {W : World} {P : Nat → Prop} {sp lo tx : ByteArray} {al : List X.A} {ks r : X.N} {ln cl g o : Nat} (h : (X.N.cons sp lo al ks tx ln cl r).At W P g o) :
    ∃ (a1 : Option Addr) (n1 : Nat) (a2 : Option Addr) (n2 : Nat), W.cell? ⟨g, o, none⟩ = some (.string sp) ∧ W.cell? ⟨g, o + 1, none⟩ = some (.string lo) ∧ W.cell? ⟨g, o + 2, none⟩ = some (.slice a1 al.length n1) ∧ W.cell? ⟨g, o + 3, none⟩ = some (.slice a2 ks.length n2) ∧ W.cell? ⟨g, o + 4, none⟩ = some (.string tx) ∧ W.cell? ⟨g, o + 5, none⟩ = some (.int .i64 ln) ∧ W.cell? ⟨g, o + 6, none⟩ = some (.int .i64 cl) ∧
      (⟨sp, lo, al, ks, tx, ln, cl⟩ : X.E).Has W P [.string sp, .string lo, .slice a1 al.length n1, .slice a2 ks.length n2, .string tx, .int .i64 ln, .int .i64 cl] ∧ r.At W P g (o + 7) := by
  obtain ⟨_, h0, h1, ⟨av, h2, ha⟩, ⟨kv, h3, hk⟩, h4, h5, h6, hr⟩ := h
  have hk' : ks.In W P kv := by
    rcases hk with hk | ⟨g', o', c, h6, h7, h8, h9⟩
    · exact Or.inl hk
    · exact Or.inr ⟨g', o', c, h6, h7, h8, h9⟩
  obtain ⟨a1, n1, rfl⟩ := ha.shape
  obtain ⟨a2, n2, rfl⟩ := hk'.shape
  exact ⟨a1, n1, a2, n2, h0, h1, h2, h3, h4, h5, h6, ⟨_, _, rfl, ha, hk'⟩, hr⟩
theorem from_drew {w w' : World} (h : Below w.drew.heap.size w.drew w') : Below w.heap.size w w' := ((Below.refl w.heap.size w).drew).trans h
def SameC (x : X.E) : Prop := ∀ (y : X.E), X.Alike x.one y.one → x.one.small → ∀ (w : World) (P : Nat → Prop) (cs cs' : List Value), x.Has w P cs → y.Has w P cs' → (∀ b, P b → b < w.heap.size) →
  Calls Tryz.prog 15 #[.agg cs.toArray, .agg cs'.toArray, .bool false] w fun e w' => e = .returned (.bool true) ∧ Below w.heap.size w w'
theorem neq_attr (a b c : ByteArray) (w : World) : (binOp .neq 50 (.agg #[.string a, .string b, .string c]) (.agg #[.string a, .string b, .string c])).run Tryz.prog w = .ok (.bool false) w := by
  go_simp
set_option maxRecDepth 100000 in
set_option maxHeartbeats 4000000 in
theorem same_step (x : X.E) (hall : x.ks.All SameC) : SameC x := by
  obtain ⟨sp, lo, ns, l, tx, ln, cl⟩ := x
  intro y hlike hsm w P cs cs' hhas hhas' hPP
  obtain ⟨sp', lo', ns', l', tx', ln', cl'⟩ := y
  obtain ⟨⟨rfl, rfl, rfl, rfl⟩, hlk, -⟩ := hlike
  obtain ⟨⟨hs1, hs2, hs3⟩, -⟩ := hsm
  obtain ⟨nv, lv, rfl, hn, hl⟩ := hhas
  obtain ⟨nv', lv', rfl, hn', hl'⟩ := hhas'
  have hl : l.In w P lv := hl
  have hn : X.AIn w P ns nv := hn
  have hl' : l'.In w P lv' := hl'
  have hn' : X.AIn w P ns nv' := hn'
  have hlen2 := X.Alike.len hlk
  obtain ⟨la, lc, rfl⟩ := hl.shape
  obtain ⟨na, nc, rfl⟩ := hn.shape
  obtain ⟨la', lc', rfl⟩ := hl'.shape
  obtain ⟨na', nc', rfl⟩ := hn'.shape
  obtain ⟨g, o, hgo⟩ := hl.addr
  obtain ⟨g', o', hgo'⟩ := hl'.addr
  obtain ⟨m, p, hmp, hna⟩ := hn.place
  obtain ⟨m', p', hmp', hna'⟩ := hn'.place
  simp only
  rw [← hlen2] at hgo' ⊢
  obtain ⟨len, hle⟩ : ∃ len, l.length = len := ⟨_, rfl⟩
  obtain ⟨nn, hnn⟩ : ∃ nn, ns.length = nn := ⟨_, rfl⟩
  obtain ⟨w1, hw1⟩ : ∃ w1, (w.alloc (.cells #[.string sp, .string lo, .slice na nn nc, .slice la len lc, .string tx, .int .i64 ln, .int .i64 cl] 28)).alloc (.cells #[.string sp, .string lo, .slice na' nn nc', .slice la' len lc', .string tx, .int .i64 ln', .int .i64 cl'] 28) = w1 := ⟨_, rfl⟩
  have hb1 : Below w.heap.size w w1 := by rw [← hw1]; exact ((Below.refl _ w).alloc (Nat.le_refl _) _).alloc (by simp) _
  have hv1 : w1.heap[w.heap.size]? = some (.cells #[.string sp, .string lo, .slice na nn nc, .slice la len lc, .string tx, .int .i64 ln, .int .i64 cl] 28 (0, 0)) := by rw [← hw1, Lib.alloc_old _ _ _ (by simp)]; exact heap_alloc_new w _
  have hv2 : w1.heap[w.heap.size + 1]? = some (.cells #[.string sp, .string lo, .slice na' nn nc', .slice la' len lc', .string tx, .int .i64 ln', .int .i64 cl'] 28 (0, 0)) := by
    rw [← hw1]
    have := heap_alloc_new (w.alloc (.cells #[.string sp, .string lo, .slice na nn nc, .slice la len lc, .string tx, .int .i64 ln, .int .i64 cl] 28)) (.cells #[.string sp, .string lo, .slice na' nn nc', .slice la' len lc', .string tx, .int .i64 ln', .int .i64 cl'] 28)
    rw [show (w.alloc (.cells #[.string sp, .string lo, .slice na nn nc, .slice la len lc, .string tx, .int .i64 ln, .int .i64 cl] 28)).heap.size = w.heap.size + 1 by simp] at this
    exact this
  have hk1 : ∀ b, P b → w1.heap[b]? = w.heap[b]? := fun b hb => hb1.block b (hPP b hb)
  obtain ⟨O1, hO1⟩ : ∃ O1, Obj.cells #[.string sp, .string lo, .slice na nn nc, .slice la len lc, .string tx, .int .i64 ln, .int .i64 cl] 28 (0, 0) = O1 := ⟨_, rfl⟩
  obtain ⟨O2, hO2⟩ : ∃ O2, Obj.cells #[.string sp, .string lo, .slice na' nn nc', .slice la' len lc', .string tx, .int .i64 ln', .int .i64 cl'] 28 (0, 0) = O2 := ⟨_, rfl⟩
  rw [hO1] at hv1
  rw [hO2] at hv2
  have HT : Hid (AQ w P O1 O2 l l' g o g' o' ns m p m' p' w1) :=
    ⟨hv1, hv2, fun hne => X.N.At.keep (fun _ h => h) hk1 _ _ _ (hgo hne).2.2, fun hne => X.N.At.keep (fun _ h => h) hk1 _ _ _ (hgo' hne).2.2,
      fun j x hj => ⟨(hna j x hj).1, by rw [World.cell?_of_block (w := w) (hk1 m (hna j x hj).1)]; exact (hna j x hj).2⟩, fun j x hj => ⟨(hna' j x hj).1, by rw [World.cell?_of_block (w := w) (hk1 m' (hna' j x hj).1)]; exact (hna' j x hj).2⟩, hb1⟩
  have HGO : Hid (l ≠ .nil → la = some ⟨g, o, none⟩ ∧ l.length ≤ lc) := hid fun h => ⟨(hgo h).1, (hgo h).2.1⟩
  have HGO' : Hid (l' ≠ .nil → la' = some ⟨g', o', none⟩ ∧ l.length ≤ lc') := hid fun h => ⟨(hgo' h).1, (hgo' h).2.1⟩
  have HMP := hid hmp
  have HMP' := hid hmp'
  rw [hle] at HGO HGO' hs2 ⊢
  rw [hnn] at HMP HMP' hs1 ⊢
  have HW1 := hid hw1
  have HLE := hid hle
  have HNN := hid hnn
  have HPP := hid hPP
  have HALL : Hid (l.All SameC) := hid hall
  have HSM := hid hs3
  have HLK := hid hlk
  have HO1 := hid hO1
  have HO2 := hid hO2
  obtain ⟨x0, x1, x2, x3, x4, x5, x6⟩ := row7s (show w1.heap[w.heap.size]? = some (.cells #[.string sp, .string lo, .slice na nn nc, .slice la len lc, .string tx, .int .i64 ln, .int .i64 cl] 28 (0, 0)) by rw [hO1]; exact HT.out.v1)
  obtain ⟨y0, y1, y2, y3, y4, y5, y6⟩ := row7s (show w1.heap[w.heap.size + 1]? = some (.cells #[.string sp, .string lo, .slice na' nn nc', .slice la' len lc', .string tx, .int .i64 ln', .int .i64 cl'] 28 (0, 0)) by rw [hO2]; exact HT.out.v2)
  clear hl hn hl' hn' hgo hgo' hmp hmp' hna hna' hb1 hv1 hv2 hk1 hw1 hle hnn hPP hall hs3 hlk hO1 hO2 hlen2
  go_enter Tryz.func15, Tryz.ntmps15
  go_upto_region 1 with fail
  rw [HW1.out]
  clear HW1
  go_upto_region 4 with fail
  clear x0 x1 x2 x3 x4 x5 x6 y0 y1 y2 y3 y4 y5 y6
  go_loopw [7] (fun vi wr => ∃ (i : Nat), i ≤ nn ∧ vi = .int .i64 i ∧ Hid (AQ w P O1 O2 l l' g o g' o' ns m p m' p' wr)) (fun vi _ => nn - (intOf vi).toNat)
  case atStart => exact ⟨0, Nat.zero_le _, rfl, HT⟩
  case round =>
    obtain ⟨j, hj, rfl, HI⟩ := hrel
    clear HT
    obtain ⟨x0, x1, x2, x3, x4, x5, x6⟩ := row7s (show wr.heap[w.heap.size]? = some (.cells #[.string sp, .string lo, .slice na nn nc, .slice la len lc, .string tx, .int .i64 ln, .int .i64 cl] 28 (0, 0)) by rw [HO1.out]; exact HI.out.v1)
    obtain ⟨y0, y1, y2, y3, y4, y5, y6⟩ := row7s (show wr.heap[w.heap.size + 1]? = some (.cells #[.string sp, .string lo, .slice na' nn nc', .slice la' len lc', .string tx, .int .i64 ln', .int .i64 cl'] 28 (0, 0)) by rw [HO2.out]; exact HI.out.v2)
    by_cases hlt : j < nn
    · have d0 : decide ((j : Int) < (nn : Int)) = true := decide_eq_true (by omega)
      have d1 : decide (j < nn) = true := decide_eq_true (by omega)
      obtain ⟨a, ha⟩ : ∃ a, ns[j]? = some a := ⟨_, List.getElem?_eq_getElem (by have := HNN.out; omega)⟩
      obtain ⟨hma, hmc⟩ := HMP.out (by omega)
      obtain ⟨hma', hmc'⟩ := HMP'.out (by omega)
      subst hma
      subst hma'
      have u0 := (HI.out.n1 (j * 3 + 0) _ (attrsC_at ns j a ha 0 _ rfl)).2
      have u1 := (HI.out.n1 (j * 3 + 1) _ (attrsC_at ns j a ha 1 _ rfl)).2
      have u2 := (HI.out.n1 (j * 3 + 2) _ (attrsC_at ns j a ha 2 _ rfl)).2
      have z0 := (HI.out.n2 (j * 3 + 0) _ (attrsC_at ns j a ha 0 _ rfl)).2
      have z1 := (HI.out.n2 (j * 3 + 1) _ (attrsC_at ns j a ha 1 _ rfl)).2
      have z2 := (HI.out.n2 (j * 3 + 2) _ (attrsC_at ns j a ha 2 _ rfl)).2
      rw [Nat.add_zero] at u0 z0
      rw [← Nat.add_assoc] at u1 u2 z1 z2
      have hj0 : (0 : Int) ≤ (j : Int) := by omega
      have hj1 : (j : Int) < (nn : Int) := by omega
      have hnq := neq_attr a.sp a.lo a.va
      clear ha
      go_upto_region 6 with fail
      go_quiet (fail)
      go_wp2_with fail
      go_roundw
      case rel => exact ⟨j + 1, by omega, by go_num, hid (HI.out.after HPP.out (below_drewN (Below.refl _ wr) _))⟩
      case measure => simp [intOf]; omega
    · have d0 : decide ((j : Int) < (nn : Int)) = false := decide_eq_false (by omega)
      have d1 : decide (j < nn) = false := decide_eq_false (by omega)
      have HB : Hid (AQ w P O1 O2 l l' g (o + 0 * 7) g' (o' + 0 * 7) ns m p m' p' wr) := by
        rw [Nat.zero_mul, Nat.add_zero, Nat.add_zero]
        exact HI
      clear HI hlt
      go_upto_region 9 with fail
      clear x0 x1 x2 x3 x4 x5 x6 y0 y1 y2 y3 y4 y5 y6 d0 d1 hj
      go_loopw [8] (fun vi wr => ∃ (i : Nat), i ≤ len ∧ vi = .int .i64 i ∧ ∃ (t t' : X.N), Hid (X.Alike t t' ∧ i + t.length = len ∧ t.All SameC ∧ t.small) ∧ Hid (AQ w P O1 O2 t t' g (o + i * 7) g' (o' + i * 7) ns m p m' p' wr)) (fun vi _ => len - (intOf vi).toNat)
      case atStart => exact ⟨0, Nat.zero_le _, rfl, l, l', hid ⟨HLK.out, by rw [HLE.out]; omega, HALL.out, HSM.out⟩, HB⟩
      case round =>
        obtain ⟨i, hi, rfl, t, t', HA, HI⟩ := hrel
        clear HB
        obtain ⟨x0, x1, x2, x3, x4, x5, x6⟩ := row7s (show wr.heap[w.heap.size]? = some (.cells #[.string sp, .string lo, .slice na nn nc, .slice la len lc, .string tx, .int .i64 ln, .int .i64 cl] 28 (0, 0)) by rw [HO1.out]; exact HI.out.v1)
        obtain ⟨y0, y1, y2, y3, y4, y5, y6⟩ := row7s (show wr.heap[w.heap.size + 1]? = some (.cells #[.string sp, .string lo, .slice na' nn nc', .slice la' len lc', .string tx, .int .i64 ln', .int .i64 cl'] 28 (0, 0)) by rw [HO2.out]; exact HI.out.v2)
        by_cases hlt : i < len
        · have d0 : decide ((i : Int) < (len : Int)) = true := decide_eq_true (by omega)
          have d1 : decide (i < len) = true := decide_eq_true (by omega)
          cases t with
          | nil => have := HA.out.2.1; simp [X.N.length] at this; omega
          | cons sp1 lo1 ns1 l1 tx1 ln1 cl1 r =>
            cases t' with
            | nil => exact absurd HA.out.1 (fun h => h)
            | cons sp2 lo2 ns2 l2 tx2 ln2 cl2 r' =>
              obtain ⟨⟨rfl, rfl, rfl, rfl⟩, hk1, hk2⟩ := HA.out.1
              obtain ⟨al, cl, an, cn, u0, u1, u2, u3, u4, u5, u6, hh, hr⟩ := (HI.out.c1 (fun h => by cases h)).head
              obtain ⟨al', cl', an', cn', z0, z1, z2, z3, z4, z5, z6, hh', hr'⟩ := (HI.out.c2 (fun h => by cases h)).head
              have hlne : l ≠ .nil := fun h => by have := HLE.out; rw [h] at this; simp [X.N.length] at this; omega
              have hlne' : l' ≠ .nil := fun h => by have := X.Alike.len HLK.out; rw [h, HLE.out] at this; simp [X.N.length] at this; omega
              obtain ⟨hga, hgc⟩ := HGO.out hlne
              obtain ⟨hga', hgc'⟩ := HGO'.out hlne'
              subst hga
              subst hga'
              have HC := hid (show SameC ⟨sp1, lo1, ns1, l1, tx1, ln1, cl1⟩ from HA.out.2.2.1.1)
              have HES := hid (show (X.E.one ⟨sp1, lo1, ns1, l1, tx1, ln1, cl1⟩).small from ⟨HA.out.2.2.2.1, trivial⟩)
              have HEL := hid (show X.Alike (X.E.one ⟨sp1, lo1, ns1, l1, tx1, ln1, cl1⟩) (X.E.one ⟨sp1, lo1, ns1, l2, tx1, ln2, cl2⟩) from ⟨⟨rfl, rfl, rfl, rfl⟩, hk1, trivial⟩)
              have HRE : Hid (AQ w P O1 O2 r r' g (o + i * 7 + 7) g' (o' + i * 7 + 7) ns m p m' p' wr) := ⟨HI.out.v1, HI.out.v2, fun _ => hr, fun _ => hr', HI.out.n1, HI.out.n2, HI.out.b⟩
              have HRA := hid (show X.Alike r r' ∧ i + 1 + r.length = len ∧ r.All SameC ∧ r.small from ⟨hk2, by have := HA.out.2.1; simp only [X.N.length] at this; omega, HA.out.2.2.1.2, HA.out.2.2.2.2⟩)
              have hi0 : (0 : Int) ≤ (i : Int) := by omega
              have hi1 : (i : Int) < (len : Int) := by omega
              clear hr hr' hlne hlne' hk1 hk2 HA
              have HCE : Hid (∀ W : World, W.heap = wr.heap → ∀ (g i : Nat), W.cell? ⟨g, i, none⟩ = wr.cell? ⟨g, i, none⟩) := fun W h g i => World.cell?_of_block (w := wr) (by rw [h])
              go_upto_region 11 with fail
              refine wp_region_till (S := (fun W : World => W.heap = wr.heap)) 11 (by kernel_rfl) ?_
              have HS := hid (show ((fun W : World => W.heap = wr.heap)) _ from rfl)
              refine wpTill_any 0 (oi := ?oi1) (v := ?v1) ?ho1 (by kernel_rfl) (by kernel_rfl) (by kernel_rfl) (by kernel_rfl) ?hq1 (Or.inl ⟨?hw1, ?hy1⟩) (fun _ => HS.out) ?rest1
              case ho1 => simp only [List.getElem?_toArray, List.getElem?_cons_zero]; rfl
              case hw1 => rfl
              case hy1 => intro w; go_simp; try with_reducible rfl
              case hq1 => exact fun _ _ _ h => h
              try simp only [Act.put, List.setIfInBounds_toArray, List.set_cons_zero, List.set_cons_succ]
              refine wpTill_any 2 (oi := ?oi2) (v := ?v2) ?ho2 (by kernel_rfl) (by kernel_rfl) (by kernel_rfl) (by kernel_rfl) ?hq2 (Or.inl ⟨?hw2, ?hy2⟩) (fun _ => HS.out) ?rest2
              case ho2 => simp only [List.getElem?_toArray, List.getElem?_cons_succ, List.getElem?_cons_zero]; rfl
              case hw2 => rfl
              case hy2 => intro w; go_simp; try with_reducible rfl
              case hq2 => exact fun _ _ _ h => h
              try simp only [Act.put, List.setIfInBounds_toArray, List.set_cons_zero, List.set_cons_succ]
              refine wpTill_any 5 (oi := ?oi3) (v := ?v3) ?ho3 (by kernel_rfl) (by kernel_rfl) (by kernel_rfl) (by kernel_rfl) ?hq3 (Or.inl ⟨?hw3, ?hy3⟩) (fun _ => HS.out) ?rest3
              case ho3 => simp only [List.getElem?_toArray, List.getElem?_cons_succ, List.getElem?_cons_zero]; rfl
              case hw3 => rfl
              case hy3 => intro w; go_simp; try with_reducible rfl
              case hq3 => exact fun _ _ _ h => h
              try simp only [Act.put, List.setIfInBounds_toArray, List.set_cons_zero, List.set_cons_succ]
              refine wpTill_any 7 (oi := ?oi4) (v := ?v4) ?ho4 (by kernel_rfl) (by kernel_rfl) (by kernel_rfl) (by kernel_rfl) ?hq4 (Or.inl ⟨?hw4, ?hy4⟩) (fun _ => HS.out) ?rest4
              case ho4 => simp only [List.getElem?_toArray, List.getElem?_cons_succ, List.getElem?_cons_zero]; rfl
              case hw4 => rfl
              case hy4 => intro w; go_simp; try with_reducible rfl
              case hq4 => exact fun _ _ _ h => h
              try simp only [Act.put, List.setIfInBounds_toArray, List.set_cons_zero, List.set_cons_succ]
              refine wpTill_any 10 (oi := ?oi5) (v := ?v5) ?ho5 (by kernel_rfl) (by kernel_rfl) (by kernel_rfl) (by kernel_rfl) ?hq5 (Or.inl ⟨?hw5, ?hy5⟩) (fun _ => HS.out) ?rest5
              case ho5 => simp only [List.getElem?_toArray, List.getElem?_cons_succ, List.getElem?_cons_zero]; rfl
              case hw5 => rfl
              case hy5 => intro w; go_simp; try with_reducible rfl
              case hq5 => exact fun _ _ _ h => h
              try simp only [Act.put, List.setIfInBounds_toArray, List.set_cons_zero, List.set_cons_succ]
              refine wpTill_load 1 [1, 3, 4, 11] (oi := ?oi6) (v := ?v6) ?ho6 (by kernel_rfl) (by kernel_rfl) (by kernel_rfl) (by kernel_rfl) ?hq6 (Or.inl ⟨?hw6, ?hy6⟩) HS.out ?rest6
              case ho6 => simp only [List.getElem?_toArray, List.getElem?_cons_succ, List.getElem?_cons_zero]; rfl
              case hw6 => rfl
              case hy6 =>
                intro w hSw
                have x3' := (HCE.out w hSw _ _ ).trans x3
                clear hSw
                go_simp
                try with_reducible rfl
              case hq6 => exact fun _ _ _ h => h
              try simp only [Act.put, List.setIfInBounds_toArray, List.set_cons_zero, List.set_cons_succ]
              refine wpTill_any 3 (oi := ?oi7) (v := ?v7) ?ho7 (by kernel_rfl) (by kernel_rfl) (by kernel_rfl) (by kernel_rfl) ?hq7 (Or.inl ⟨?hw7, ?hy7⟩) (fun _ => HS.out) ?rest7
              case ho7 => simp only [List.getElem?_toArray, List.getElem?_cons_succ, List.getElem?_cons_zero]; rfl
              case hw7 => rfl
              case hy7 => intro w; go_simp; try with_reducible rfl
              case hq7 => exact fun _ _ _ h => h
              try simp only [Act.put, List.setIfInBounds_toArray, List.set_cons_zero, List.set_cons_succ]
              refine wpTill_load 4 [4, 11] (oi := ?oi8) (v := ?v8) ?ho8 (by kernel_rfl) (by kernel_rfl) (by kernel_rfl) (by kernel_rfl) ?hq8 (Or.inl ⟨?hw8, ?hy8⟩) HS.out ?rest8
              case ho8 => simp only [List.getElem?_toArray, List.getElem?_cons_succ, List.getElem?_cons_zero]; rfl
              case hw8 => rfl
              case hy8 =>
                intro w hSw
                have u0' := (HCE.out w hSw _ _ ).trans u0
                have u1' := (HCE.out w hSw _ _ ).trans u1
                have u2' := (HCE.out w hSw _ _ ).trans u2
                have u3' := (HCE.out w hSw _ _ ).trans u3
                have u4' := (HCE.out w hSw _ _ ).trans u4
                have u5' := (HCE.out w hSw _ _ ).trans u5
                have u6' := (HCE.out w hSw _ _ ).trans u6
                clear hSw
                go_simp
                try with_reducible rfl
              case hq8 => exact fun _ _ _ h => h
              try simp only [Act.put, List.setIfInBounds_toArray, List.set_cons_zero, List.set_cons_succ]
              refine wpTill_load 6 [6, 8, 9, 11] (oi := ?oi9) (v := ?v9) ?ho9 (by kernel_rfl) (by kernel_rfl) (by kernel_rfl) (by kernel_rfl) ?hq9 (Or.inl ⟨?hw9, ?hy9⟩) HS.out ?rest9
              case ho9 => simp only [List.getElem?_toArray, List.getElem?_cons_succ, List.getElem?_cons_zero]; rfl
              case hw9 => rfl
              case hy9 =>
                intro w hSw
                have y3' := (HCE.out w hSw _ _ ).trans y3
                clear hSw
                go_simp
                try with_reducible rfl
              case hq9 => exact fun _ _ _ h => h
              try simp only [Act.put, List.setIfInBounds_toArray, List.set_cons_zero, List.set_cons_succ]
              refine wpTill_any 8 (oi := ?oi10) (v := ?v10) ?ho10 (by kernel_rfl) (by kernel_rfl) (by kernel_rfl) (by kernel_rfl) ?hq10 (Or.inl ⟨?hw10, ?hy10⟩) (fun _ => HS.out) ?rest10
              case ho10 => simp only [List.getElem?_toArray, List.getElem?_cons_succ, List.getElem?_cons_zero]; rfl
              case hw10 => rfl
              case hy10 => intro w; go_simp; try with_reducible rfl
              case hq10 => exact fun _ _ _ h => h
              try simp only [Act.put, List.setIfInBounds_toArray, List.set_cons_zero, List.set_cons_succ]
              refine wpTill_load 9 [9, 11] (oi := ?oi11) (v := ?v11) ?ho11 (by kernel_rfl) (by kernel_rfl) (by kernel_rfl) (by kernel_rfl) ?hq11 (Or.inl ⟨?hw11, ?hy11⟩) HS.out ?rest11
              case ho11 => simp only [List.getElem?_toArray, List.getElem?_cons_succ, List.getElem?_cons_zero]; rfl
              case hw11 => rfl
              case hy11 =>
                intro w hSw
                have z0' := (HCE.out w hSw _ _ ).trans z0
                have z1' := (HCE.out w hSw _ _ ).trans z1
                have z2' := (HCE.out w hSw _ _ ).trans z2
                have z3' := (HCE.out w hSw _ _ ).trans z3
                have z4' := (HCE.out w hSw _ _ ).trans z4
                have z5' := (HCE.out w hSw _ _ ).trans z5
                have z6' := (HCE.out w hSw _ _ ).trans z6
                clear hSw
                go_simp
                try with_reducible rfl
              case hq11 => exact fun _ _ _ h => h
              try simp only [Act.put, List.setIfInBounds_toArray, List.set_cons_zero, List.set_cons_succ]
              refine wpTill_ready (rs := [11]) (by kernel_rfl) (by decide) ?_
              refine AllTill.consH (o := ?oi12) ?ho12 (fun K hK => ?step12) ?more12
              case ho12 => simp only [List.getElem?_toArray, List.getElem?_cons_succ, List.getElem?_cons_zero]; rfl
              case step12 =>
                go_simp
                refine (HC.out ⟨sp1, lo1, ns1, l2, tx1, ln2, cl2⟩ HEL.out HES.out wr.drew P _ _ (X.E.Has.keep (w := wr) (w' := wr.drew) (fun _ h => h) (fun _ _ => rfl) hh) (X.E.Has.keep (w := wr) (w' := wr.drew) (fun _ h => h) (fun _ _ => rfl) hh') (fun j hj => Nat.lt_of_lt_of_le (HPP.out j hj) HI.out.b.size)).mono ?_
                rintro e w6 ⟨rfl, hb6⟩
                have HR6 := hid (HRE.out.after HPP.out (from_drew hb6))
                clear hb6 hh hh'
                try dsimp only
                refine hK.out _ _ (fun hk => by cases (show true = false from hk)) (fun _ => ?_)
                clear hK K
                try simp only [Act.put, List.setIfInBounds_toArray, List.set_cons_zero, List.set_cons_succ]
                refine wpTill_any 12 (oi := ?oi13) (v := ?v13) ?ho13 (by kernel_rfl) (by kernel_rfl) (by kernel_rfl) (by kernel_rfl) ?hq13 (Or.inl ⟨?hw13, ?hy13⟩) (fun hk => by cases (show true = false from hk)) ?rest13
                case ho13 => simp only [List.getElem?_toArray, List.getElem?_cons_succ, List.getElem?_cons_zero]; rfl
                case hw13 => rfl
                case hy13 => intro w; go_simp; try with_reducible rfl
                case hq13 => exact fun _ _ _ h => h
                try simp only [Act.put, List.setIfInBounds_toArray, List.set_cons_zero, List.set_cons_succ]
                refine wpTill_done (by kernel_rfl) ?_ _
                clear u0 u1 u2 u3 u4 u5 u6 z0 z1 z2 z3 z4 z5 z6 x0 x1 x2 x3 x4 x5 x6 y0 y1 y2 y3 y4 y5 y6
                go_wp2_with fail
                go_roundw
                case rel =>
                  refine ⟨i + 1, by omega, by go_num, r, r', HRA, by rw [show o + (i + 1) * 7 = o + i * 7 + 7 by omega, show o' + (i + 1) * 7 = o' + i * 7 + 7 by omega]; exact HR6⟩
                case measure => simp [intOf]; omega
              case more12 =>
                exact AllTill.nil
        · have d0 : decide ((i : Int) < (len : Int)) = false := decide_eq_false (by omega)
          have d1 : decide (i < len) = false := decide_eq_false (by omega)
          clear hlt hi
          go_wp2_with fail
          go_ret
          exact ⟨rfl, HI.out.b⟩
theorem rsame_any (x : X.E) : SameC x := X.E.of same_step x
end Go.Proofs.YtakplnceiibmlaaGreatDoor
namespace Go.Proofs.YtakplnceiibmlaaGreatDoor
open Go.RowKit
open Go.Lib (hid)
set_option maxRecDepth 100000 in
theorem lspace_any (n : Nat) (W : World) : Calls Tryz.prog 28 #[.int .u8 (n : Int)] W fun e W' => e = .returned (.string (X.ba (X.spc n))) ∧ Below W.heap.size W W' := by
  have hcs : n % 4 = 0 ∨ n % 4 = 1 ∨ n % 4 = 2 ∨ n % 4 = 3 := by omega
  have hsp := X.spc_mod n
  rcases hcs with h | h | h | h
  all_goals
    rw [h] at hsp
    have hR := hid hsp
    have h1 : ((n : Int).tmod 4) = ((n % 4 : Nat) : Int) := rfl
    rw [h] at h1
    clear hsp h
    go_enter Tryz.func28, Tryz.ntmps28
    go_wp2_with fail
    go_ret
    refine ⟨?_, (Below.refl _ W).alloc (Nat.le_refl _) _⟩
    rw [← hR.out]
    rfl
set_option maxRecDepth 100000 in
theorem lname_any (n : Nat) (_hn : n ≤ 255) (W : World) : Calls Tryz.prog 29 #[.int .u8 (n : Int)] W fun e W' => e = .returned (.string (X.ba (X.nm n))) ∧ Below W.heap.size W W' := by
  have h1 : ((n : Int).tmod 26) = ((n % 26 : Nat) : Int) := rfl
  obtain ⟨k, hk⟩ : ∃ k, n % 26 = k := ⟨_, rfl⟩
  have hk26 : k < 26 := by omega
  rw [hk] at h1
  have h2 : IntKind.u8.wrap (97 + (k : Int)) = 97 + (k : Int) := by rw [IntKind.wrap_u8]; omega
  obtain ⟨c, hcc⟩ : ∃ c, UInt8.ofNat (97 + k) = c := ⟨_, rfl⟩
  have hc : (c.toNat : Int) = 97 + (k : Int) := by rw [← hcc, UInt8.toNat_ofNat']; omega
  have HK : Hid (X.nm n = [110, c]) := by
    show _ = _
    unfold X.nm
    rw [hk, hcc]
  clear hk hcc
  go_enter Tryz.func29, Tryz.ntmps29
  have hcv := run_convert_bytes_back (P := Tryz.prog) (W.alloc (.cells #[.int .u8 (97 + (k : Int))] 5)) 103 9 5 ⟨W.heap.size, 0, none⟩ 1 [c] Tryz.underlying103 Tryz.underlying5 Tryz.underlying9 (fun j hj => by
    have h0 : j = 0 := by simp only [List.length_cons, List.length_nil] at hj; omega
    subst h0
    simp only [List.getElem_cons_zero]
    rw [hc]
    exact rowCell (heap_alloc_new W _) 0)
  simp only [List.length_cons, List.length_nil, Nat.zero_add] at hcv
  go_wp2_with fail
  go_ret
  refine ⟨?_, (Below.refl _ W).alloc (Nat.le_refl _) _⟩
  rw [HK.out]
  show Ending.returned (.string ((⟨#[110]⟩ : ByteArray) ++ ⟨#[c]⟩)) = _
  rw [show (⟨#[110]⟩ : ByteArray) ++ ⟨#[c]⟩ = X.ba [110, c] by apply ByteArray.ext; simp [X.ba]]
end Go.Proofs.YtakplnceiibmlaaGreatDoor
namespace Go.Proofs.YtakplnceiibmlaaGreatDoor
open Go.RowKit
open Go.Lib (hid)
namespace X
/-- a slice of n holds these cells; its block is among P -/
def CIn (w : World) (P : Nat → Prop) (n : Nat) (cs : List Value) (v : Value) : Prop :=
  (n = 0 ∧ ∃ a c, v = .slice a 0 c ∧ (a = none → c = 0)) ∨ (0 < n ∧ ∃ b o c, v = .slice (some ⟨b, o, none⟩) n c ∧ P b ∧ n ≤ c ∧ ∀ j u, cs[j]? = some u → w.cell? ⟨b, o + j, none⟩ = some u)
theorem CIn.keep {P Q : Nat → Prop} {w w' : World} (hP : ∀ b, P b → Q b) (h : ∀ b, P b → w'.heap[b]? = w.heap[b]?) {n : Nat} {cs : List Value} {v : Value} (hv : CIn w P n cs v) : CIn w' Q n cs v := by
  rcases hv with hv | ⟨h0, b, o, c, hv, hb, hc, ha⟩
  · exact Or.inl hv
  · exact Or.inr ⟨h0, b, o, c, hv, hP b hb, hc, fun j x hj => by rw [World.cell?_of_block (w := w) (h b hb)]; exact ha j x hj⟩
theorem CIn.shape {P : Nat → Prop} {w : World} {n : Nat} {cs : List Value} {v : Value} (h : CIn w P n cs v) : ∃ a c, v = .slice a n c := by
  rcases h with ⟨rfl, a, c, h, _⟩ | ⟨_, b, o, c, h, _⟩
  · exact ⟨a, c, h⟩
  · exact ⟨_, c, h⟩
theorem CIn.place {w : World} {P : Nat → Prop} {n : Nat} {cs : List Value} {a : Option Addr} {c : Nat} (h : CIn w P n cs (.slice a n c)) : ∃ g o, 0 < n → a = some ⟨g, o, none⟩ ∧ n ≤ c ∧ P g ∧ ∀ j u, cs[j]? = some u → w.cell? ⟨g, o + j, none⟩ = some u := by
  rcases h with ⟨h, _⟩ | ⟨h0, g, o, c', h1, h2, h3, h4⟩
  · exact ⟨0, 0, fun hne => by omega⟩
  · simp only [Value.slice.injEq] at h1
    obtain ⟨rfl, _, rfl⟩ := h1
    exact ⟨g, o, fun _ => ⟨rfl, h3, h2, h4⟩⟩
def sayC (x : Say) : List Value := [.int .u8 x.sp, .int .u8 x.lo, .string x.va]
def saysC (l : List Say) : List Value := l.flatMap sayC
theorem saysC_at : ∀ (l : List Say) (j : Nat) (x : Say), l[j]? = some x → ∀ i u, (sayC x)[i]? = some u → (saysC l)[j * 3 + i]? = some u
  | y :: r, 0, x, h, i, u, hu => by
    simp only [List.getElem?_cons_zero, Option.some.injEq] at h
    subst h
    unfold saysC
    rw [List.flatMap_cons, Nat.zero_mul, Nat.zero_add, List.getElem?_append_left (by have := (List.getElem?_eq_some_iff.1 hu).1; exact this)]
    exact hu
  | y :: r, j + 1, x, h, i, u, hu => by
    have := saysC_at r j x (by simpa using h) i u hu
    unfold saysC at this ⊢
    rw [List.flatMap_cons, List.getElem?_append_right (by show 3 ≤ _; omega)]
    show (List.flatMap sayC r)[(j + 1) * 3 + i - 3]? = _
    rw [show (j + 1) * 3 + i - 3 = j * 3 + i by omega]
    exact this
def strC (l : List ByteArray) : List Value := l.map .string
theorem strC_at (l : List ByteArray) (j : Nat) (x : ByteArray) (h : l[j]? = some x) : (strC l)[j]? = some (.string x) := by
  unfold strC; rw [List.getElem?_map, h]; rfl
def WT.length : WT → Nat
  | .nil => 0
  | .cons _ _ _ _ _ r => r.length + 1
/-- these trees stand in this block from this place on -/
def WT.At (w : World) (P : Nat → Prop) : WT → Nat → Nat → Prop
  | .nil, _, _ => True
  | .cons sp lo al tx ks r, g, o => P g ∧ w.cell? ⟨g, o, none⟩ = some (.int .u8 sp) ∧ w.cell? ⟨g, o + 1, none⟩ = some (.int .u8 lo) ∧ (∃ v, w.cell? ⟨g, o + 2, none⟩ = some v ∧ CIn w P al.length (saysC al) v) ∧
      (∃ v, w.cell? ⟨g, o + 3, none⟩ = some v ∧ CIn w P tx.length (strC tx) v) ∧
      (∃ v, w.cell? ⟨g, o + 4, none⟩ = some v ∧ ((ks = .nil ∧ ∃ a c, v = .slice a 0 c ∧ (a = none → c = 0)) ∨ ∃ g' o' c, v = .slice (some ⟨g', o', none⟩) ks.length c ∧ ks.length ≤ c ∧ 0 < ks.length ∧ ks.At w P g' o')) ∧ r.At w P g (o + 5)
/-- a slice holds these trees -/
def WT.In (w : World) (P : Nat → Prop) (t : WT) (v : Value) : Prop :=
  (t = .nil ∧ ∃ a c, v = .slice a 0 c ∧ (a = none → c = 0)) ∨ ∃ g o c, v = .slice (some ⟨g, o, none⟩) t.length c ∧ t.length ≤ c ∧ 0 < t.length ∧ t.At w P g o
theorem WT.At.keep {P Q : Nat → Prop} {w w' : World} (hP : ∀ b, P b → Q b) (h : ∀ b, P b → w'.heap[b]? = w.heap[b]?) : ∀ (t : WT) (g o : Nat), t.At w P g o → t.At w' Q g o
  | .nil, _, _, _ => trivial
  | .cons sp lo al tx ks r, g, o, ⟨hg, h0, h1, ⟨u, h2, hu⟩, ⟨s, h3, hs⟩, ⟨v, h4, hv⟩, hr⟩ => by
    have hc : ∀ i, w'.cell? ⟨g, i, none⟩ = w.cell? ⟨g, i, none⟩ := fun i => World.cell?_of_block (w := w) (h g hg)
    refine ⟨hP g hg, ?_, ?_, ⟨u, ?_, hu.keep hP h⟩, ⟨s, ?_, hs.keep hP h⟩, ⟨v, ?_, ?_⟩, WT.At.keep hP h r g (o + 5) hr⟩
    · rw [hc]; exact h0
    · rw [hc]; exact h1
    · rw [hc]; exact h2
    · rw [hc]; exact h3
    · rw [hc]; exact h4
    · rcases hv with hv | ⟨g', o', c, hv, hl, hp, ha⟩
      · exact Or.inl hv
      · exact Or.inr ⟨g', o', c, hv, hl, hp, WT.At.keep hP h ks g' o' ha⟩
theorem WT.In.keep {P Q : Nat → Prop} {w w' : World} (hP : ∀ b, P b → Q b) (h : ∀ b, P b → w'.heap[b]? = w.heap[b]?) {t : WT} {v : Value} (hv : t.In w P v) : t.In w' Q v := by
  rcases hv with hv | ⟨g, o, c, hv, hl, hp, ha⟩
  · exact Or.inl hv
  · exact Or.inr ⟨g, o, c, hv, hl, hp, WT.At.keep hP h t g o ha⟩
theorem WT.In.shape {P : Nat → Prop} {w : World} {t : WT} {v : Value} (h : t.In w P v) : ∃ a c, v = .slice a t.length c := by
  rcases h with ⟨rfl, a, c, h, _⟩ | ⟨g, o, c, h, _⟩
  · exact ⟨a, c, h⟩
  · exact ⟨_, c, h⟩
theorem WT.In.addr {w : World} {P : Nat → Prop} {l : WT} {a : Option Addr} {c : Nat} (h : l.In w P (.slice a l.length c)) : ∃ g o, l ≠ .nil → a = some ⟨g, o, none⟩ ∧ l.length ≤ c ∧ l.At w P g o := by
  rcases h with ⟨h, _⟩ | ⟨g, o, c', h1, h2, h3, h4⟩
  · exact ⟨0, 0, fun hne => absurd h hne⟩
  · simp only [Value.slice.injEq] at h1
    obtain ⟨rfl, _, rfl⟩ := h1
    exact ⟨g, o, fun _ => ⟨rfl, h2, h4⟩⟩
/-- the cells of one tree, what hangs on it among P -/
def treeHas (w : World) (P : Nat → Prop) (sp lo : Nat) (al : List Say) (tx : List ByteArray) (ks : WT) (cs : List Value) : Prop := ∃ av tv kv, cs = [.int .u8 sp, .int .u8 lo, av, tv, kv] ∧ CIn w P al.length (saysC al) av ∧ CIn w P tx.length (strC tx) tv ∧ ks.In w P kv
theorem treeHas.keep {P Q : Nat → Prop} {w w' : World} (hP : ∀ b, P b → Q b) (h : ∀ b, P b → w'.heap[b]? = w.heap[b]?) {sp lo : Nat} {al : List Say} {tx : List ByteArray} {ks : WT} {cs : List Value} (hv : treeHas w P sp lo al tx ks cs) : treeHas w' Q sp lo al tx ks cs := by
  obtain ⟨av, tv, kv, h1, h2, h3, h4⟩ := hv
  exact ⟨av, tv, kv, h1, h2.keep hP h, h3.keep hP h, h4.keep hP h⟩
theorem WT.At.head {W : World} {P : Nat → Prop} {sp lo : Nat} {al : List Say} {tx : List ByteArray} {ks r : WT} {g o : Nat} (h : (WT.cons sp lo al tx ks r).At W P g o) :
    ∃ (a1 : Option Addr) (n1 : Nat) (a2 : Option Addr) (n2 : Nat) (a3 : Option Addr) (n3 : Nat), W.cell? ⟨g, o, none⟩ = some (.int .u8 sp) ∧ W.cell? ⟨g, o + 1, none⟩ = some (.int .u8 lo) ∧ W.cell? ⟨g, o + 2, none⟩ = some (.slice a1 al.length n1) ∧ W.cell? ⟨g, o + 3, none⟩ = some (.slice a2 tx.length n2) ∧ W.cell? ⟨g, o + 4, none⟩ = some (.slice a3 ks.length n3) ∧
      treeHas W P sp lo al tx ks [.int .u8 sp, .int .u8 lo, .slice a1 al.length n1, .slice a2 tx.length n2, .slice a3 ks.length n3] ∧ ks.In W P (.slice a3 ks.length n3) ∧ r.At W P g (o + 5) := by
  obtain ⟨_, h0, h1, ⟨av, h2, ha⟩, ⟨tv, h3, ht⟩, ⟨kv, h4, hk⟩, hr⟩ := h
  have hk' : ks.In W P kv := by
    rcases hk with hk | ⟨g', o', c, h6, h7, h8, h9⟩
    · exact Or.inl hk
    · exact Or.inr ⟨g', o', c, h6, h7, h8, h9⟩
  obtain ⟨a1, n1, rfl⟩ := ha.shape
  obtain ⟨a2, n2, rfl⟩ := ht.shape
  obtain ⟨a3, n3, rfl⟩ := hk'.shape
  exact ⟨a1, n1, a2, n2, a3, n3, h0, h1, h2, h3, h4, ⟨_, _, _, rfl, ha, ht, hk'⟩, hk', hr⟩
/-- what holds of all lists of kids -/
def WT.AllK (p : WT → Prop) : WT → Prop
  | .nil => True
  | .cons _ _ _ _ ks r => p ks ∧ r.AllK p
theorem WT.allK_of {p : WT → Prop} (h : ∀ t : WT, t.AllK p → p t) : ∀ t : WT, t.AllK p ∧ p t
  | .nil => ⟨trivial, h .nil trivial⟩
  | .cons sp lo al tx ks r => by
    have h1 : (WT.cons sp lo al tx ks r).AllK p := ⟨(WT.allK_of h ks).2, (WT.allK_of h r).1⟩
    exact ⟨h1, h _ h1⟩
/-- how many nodes there are -/
def WT.count : WT → Nat
  | .nil => 0
  | .cons _ _ _ _ ks r => 1 + ks.count + r.count
theorem WT.len_count : ∀ t : WT, t.length ≤ t.count
  | .nil => Nat.le_refl _
  | .cons _ _ _ _ ks r => by
    have := WT.len_count r
    simp only [WT.length, WT.count]; omega
/-- what is left behind these trees, each of which stands d deep -/
def szL : WT → Int → Nat → Int
  | .nil, left, _ => left
  | .cons _ _ _ _ ks r, left, d => if left < 0 then left else szL r (if 30 < d + 1 then -1 else szL ks (left - 1) (d + 1)) d
theorem szL_neg : ∀ (t : WT) (left : Int) (d : Nat), left < 0 → szL t left d = left
  | .nil, _, _, _ => rfl
  | .cons _ _ _ _ _ _, left, d, h => by simp only [szL]; rw [if_pos h]
theorem szL_hi : ∀ (t : WT) (left : Int) (d : Nat), left ≤ 300 → szL t left d ≤ 300
  | .nil, _, _, h => h
  | .cons _ _ _ _ ks r, left, d, h => by
    simp only [szL]
    split
    · omega
    · apply szL_hi r
      split
      · omega
      · exact szL_hi ks _ _ (by omega)
theorem szL_lo : ∀ (t : WT) (left : Int) (d : Nat), -1 ≤ left → -1 ≤ szL t left d
  | .nil, _, _, h => h
  | .cons _ _ _ _ ks r, left, d, h => by
    simp only [szL]
    split
    · omega
    · apply szL_lo r
      split
      · omega
      · exact szL_lo ks _ _ (by omega)
theorem szL_few : ∀ (t : WT) (left : Int) (d : Nat), 0 ≤ szL t left d → szL t left d = left - t.count
  | .nil, left, _, _ => by simp [szL, WT.count]
  | .cons _ _ _ _ ks r, left, d, h0 => by
    simp only [szL] at h0 ⊢
    by_cases hl : left < 0
    · rw [if_pos hl] at h0; omega
    · rw [if_neg hl] at h0 ⊢
      by_cases hd : 30 < d + 1
      · rw [if_pos hd, szL_neg r _ _ (by omega)] at h0; omega
      · rw [if_neg hd] at h0 ⊢
        by_cases hi : szL ks (left - 1) (d + 1) < 0
        · rw [szL_neg r _ _ hi] at h0; omega
        · have h1 := szL_few ks (left - 1) (d + 1) (by omega)
          have h2 := szL_few r (szL ks (left - 1) (d + 1)) d h0
          simp only [WT.count]
          omega
end X
def SizeC (t : X.WT) : Prop := ∀ (left : Int) (d : Nat), -1 ≤ left → left ≤ 300 → d ≤ 31 → ∀ (w : World) (P : Nat → Prop) (lv : Value), t.In w P lv → t.length ≤ 9223372036854775807 →
  Calls Tryz.prog 13 #[lv, .int .i64 left, .int .i64 d] w fun e w' => e = .returned (.int .i64 (if 30 < d then -1 else X.szL t left d)) ∧ w' = w
/-- no list is longer than a slice may be -/
def X.WT.lens : X.WT → Prop
  | .nil => True
  | .cons _ _ _ _ ks r => (ks.length ≤ 9223372036854775807 ∧ ks.lens) ∧ r.lens
def SizeD (t : X.WT) : Prop := t.lens → SizeC t
set_option maxRecDepth 100000 in
set_option maxHeartbeats 4000000 in
theorem size_step (l : X.WT) (hall : l.AllK SizeD) : SizeD l := by
  intro hlens left d h1 h2 h3 w P lv hin hln
  obtain ⟨la, lc, rfl⟩ := hin.shape
  obtain ⟨g, o, hgo⟩ := hin.addr
  obtain ⟨len, hle⟩ : ∃ len, l.length = len := ⟨_, rfl⟩
  have HGO := hid hgo
  rw [hle] at HGO hln ⊢
  have HLE := hid hle
  have HALL := hid (And.intro hall hlens)
  clear hin hgo hle hall hlens
  by_cases hd : 30 < d
  · have t0 : decide ((30 : Int) < (d : Int)) = true := decide_eq_true (by omega)
    have t1 : decide (30 < d) = true := decide_eq_true hd
    rw [if_pos hd]
    clear hd
    go_enter Tryz.func13, Tryz.ntmps13
    go_wp2_with fail
    go_ret
    exact ⟨rfl, rfl⟩
  · have t0 : decide ((30 : Int) < (d : Int)) = false := decide_eq_false (by omega)
    have t1 : decide (30 < d) = false := decide_eq_false hd
    rw [if_neg hd]
    obtain ⟨RES, hRES⟩ : ∃ r, X.szL l left d = r := ⟨_, rfl⟩
    rw [hRES]
    have HRES := hid hRES
    clear hRES
    go_enter Tryz.func13, Tryz.ntmps13
    go_upto_region 4 with fail
    clear t0 t1
    go_loopw [1, 7] (fun vl vi wr => ∃ (i : Nat) (lf : Int), i ≤ len ∧ vi = .int .i64 i ∧ vl = .int .i64 lf ∧ -1 ≤ lf ∧ lf ≤ 300 ∧ ∃ (t2 : X.WT), Hid (X.szL t2 lf d = RES ∧ i + t2.length = len ∧ t2.AllK SizeD ∧ t2.lens ∧ (t2 ≠ .nil → t2.At w P g (o + i * 5))) ∧ wr = w) (fun _ vi _ => len - (intOf vi).toNat)
    case atStart => exact ⟨0, left, Nat.zero_le _, rfl, rfl, h1, h2, l, hid ⟨HRES.out, by rw [HLE.out]; omega, HALL.out.1, HALL.out.2, fun hne => by rw [Nat.zero_mul, Nat.add_zero]; exact (HGO.out hne).2.2⟩, rfl⟩
    case round =>
      obtain ⟨i, lf, hi, rfl, rfl, hf1, hf2, t2, HA, hwr⟩ := hrel
      obtain rfl := hwr.symm
      clear HRES
      by_cases hlt : i < len
      · have d0 : decide ((i : Int) < (len : Int)) = true := decide_eq_true (by omega)
        have d1 : decide (i < len) = true := decide_eq_true (by omega)
        by_cases hlf : lf < 0
        · have e0 : decide ((0 : Int) ≤ lf) = false := decide_eq_false (by omega)
          have HE : Hid (lf = RES) := by show _ = _; rw [← HA.out.1, X.szL_neg _ _ _ hlf]
          clear hlf HA
          go_wp2_with fail
          go_ret
          exact ⟨by rw [HE.out]; rfl, rfl⟩
        · have e0 : decide ((0 : Int) ≤ lf) = true := decide_eq_true (by omega)
          cases t2 with
          | nil => have := HA.out.2.1; simp [X.WT.length] at this; omega
          | cons sp lo al tx ks r =>
            obtain ⟨hA1, hA2, hA3, hA4, hA5⟩ := HA.out
            obtain ⟨a1, n1, a2, n2, a3, n3, -, -, -, -, u4, -, hin, hr⟩ := (hA5 (fun h => by cases h)).head
            have hlne : l ≠ .nil := fun h => by have := HLE.out; rw [h] at this; simp [X.WT.length] at this; omega
            obtain ⟨hga, hgc, -⟩ := HGO.out hlne
            subst hga
            have cS := hA3.1 hA4.1.2 (lf - 1) (d + 1) (by omega) (by omega) (by omega) w P _ hin hA4.1.1
            have hlo := X.szL_lo ks (lf - 1) (d + 1) (by omega)
            have hhi := X.szL_hi ks (lf - 1) (d + 1) (by omega)
            obtain ⟨lf2, hlf2⟩ : ∃ q, (if 30 < d + 1 then -1 else X.szL ks (lf - 1) (d + 1)) = q := ⟨_, rfl⟩
            rw [hlf2] at cS
            have hX : -1 ≤ lf2 ∧ lf2 ≤ 300 := by
              rw [← hlf2]
              split
              · omega
              · exact ⟨hlo, hhi⟩
            have HN : Hid (X.szL r lf2 d = RES ∧ i + 1 + r.length = len ∧ r.AllK SizeD ∧ r.lens ∧ (r ≠ .nil → r.At w P g (o + (i + 1) * 5))) := hid ⟨by
              rw [← hA1, ← hlf2]
              conv => rhs; unfold X.szL
              rw [if_neg hlf], by simp only [X.WT.length] at hA2; omega, hA3.2, hA4.2, fun _ => by rw [show o + (i + 1) * 5 = o + i * 5 + 5 by omega]; exact hr⟩
            have hi0 : (0 : Int) ≤ (i : Int) := by omega
            have hi1 : (i : Int) < (len : Int) := by omega
            have e1 : IntKind.i64.wrap (lf - 1) = lf - 1 := by rw [IntKind.wrap_i64]; omega
            have e2 : IntKind.i64.wrap ((d : Int) + 1) = (d : Int) + 1 := by rw [IntKind.wrap_i64]; omega
            have e3 : ((d + 1 : Nat) : Int) = (d : Int) + 1 := by omega
            rw [e3] at cS
            clear e3
            clear hA1 hA2 hA3 hA4 hA5 HA hr hlo hhi hlf2 hin
            go_wp2_with fail
            refine cS.mono ?_
            rintro e w6 ⟨rfl, rfl⟩
            clear cS u4
            go_wp2_with fail
            refine ⟨⟨i + 1, lf2, by omega, by go_num, rfl, hX.1, hX.2, r, HN, trivial⟩, ?_⟩
            simp [intOf]; omega
      · have d0 : decide ((i : Int) < (len : Int)) = false := decide_eq_false (by omega)
        have d1 : decide (i < len) = false := decide_eq_false (by omega)
        have HE : Hid (lf = RES) := by
          show _ = _
          obtain ⟨hA1, hA2, -⟩ := HA.out
          cases t2 with
          | nil => exact hA1
          | cons sp lo al tx ks r => simp only [X.WT.length] at hA2; omega
        clear HA hlt
        go_wp2_with fail
        go_ret
        exact ⟨by rw [HE.out]; rfl, rfl⟩
theorem size_any (t : X.WT) : SizeD t := (X.WT.allK_of size_step t).2
end Go.Proofs.YtakplnceiibmlaaGreatDoor
namespace Go.Proofs.YtakplnceiibmlaaGreatDoor
open Go.RowKit
open Go.Lib (hid)
namespace X
/-- all numbers are bytes, all texts short -/
def sayW (x : Say) : Prop := x.sp ≤ 255 ∧ x.lo ≤ 255 ∧ x.va.size ≤ 1048576
def WT.wide : WT → Prop
  | .nil => True
  | .cons sp lo al tx ks r => (sp ≤ 255 ∧ lo ≤ 255 ∧ (∀ x ∈ al, sayW x) ∧ (∀ s ∈ tx, s.size ≤ 1048576) ∧ ks.wide) ∧ r.wide
theorem esc_size (s : ByteArray) (h : s.size ≤ 1048576) : (escL s.data.toList).length ≤ 6291456 := by
  have := escL_len s.data.toList
  rw [← Lib.size_eq] at this
  omega
theorem nm_len (n : Nat) : (nm n).length = 2 := rfl
theorem spc_len (n : Nat) : (spc n).length ≤ 9 := by
  unfold spc
  split <;> simp
theorem Part.len {w : List UInt8} (h : Part w) : w.length ≤ 32 := by
  obtain ⟨_, _, _, _, _, h⟩ := h; exact h
theorem Pre.len {P : List (List UInt8)} (h : Pre P) (sp : Nat) : (Pn P sp).length ≤ 32 := by
  rcases h.pn sp with e | e
  · rw [e]; exact Nat.zero_le _
  · exact e.len
theorem tag_len {P : List (List UInt8)} (h : Pre P) (sp lo : Nat) : (tagT P sp lo).length ≤ 35 := by
  unfold tagT nmT
  have := h.len sp
  split
  · rw [nm_len]; omega
  · rw [List.length_append, List.length_cons, nm_len]; omega
theorem say_len {P : List (List UInt8)} (h : Pre P) (x : Say) (hx : sayW x) : (sayT P x).text.length ≤ 6291500 := by
  have h1 := tag_len h x.sp x.lo
  have h2 := esc_size x.va hx.2.2
  unfold T.text sayT
  unfold tagT at h1
  simp only [List.length_append, List.length_cons, List.length_nil]
  omega
theorem says_len {P : List (List UInt8)} (h : Pre P) {sep : List UInt8} (hs : sep.length ≤ 3) : ∀ (l : List Say), (∀ x ∈ l, sayW x) → (texts sep (l.map (sayT P))).length ≤ l.length * 6291510
  | [], _ => Nat.zero_le _
  | x :: l, hx => by
    have h1 := say_len h x (hx x List.mem_cons_self)
    have h2 := says_len h hs l (fun y hy => hx y (List.mem_cons_of_mem _ hy))
    show (sep ++ ((sayT P x).text ++ texts sep (l.map (sayT P)))).length ≤ _
    simp only [List.length_append, List.length_cons]
    omega
theorem root_len {P : List (List UInt8)} (h : Pre P) {sep : List UInt8} (hs : sep.length ≤ 3) (d : Nat) : (texts sep (rootT P d)).length ≤ 500 := by
  unfold rootT
  split
  · have e : ∀ i, 1 ≤ i → i < 4 → (T.text ⟨39, xmlns, P.getD i [], spc i⟩).length ≤ 120 := by
      intro i h1 h4
      have h2 := (h.part i h1 h4).len
      have h3 : (escL (spc i)).length ≤ 54 := by
        have := escL_len (spc i)
        have := spc_len i
        omega
      simp only [T.text, nmT]
      rw [if_neg (show ¬ xmlns = [] by decide)]
      have : xmlns.length = 5 := rfl
      simp only [List.length_append, List.length_cons, List.length_nil]
      omega
    have h1 := e 1 (by omega) (by omega)
    have h2 := e 2 (by omega) (by omega)
    have h3 := e 3 (by omega) (by omega)
    simp only [texts, List.length_append, List.length_nil]
    omega
  · exact Nat.zero_le _
theorem kept_wide (al : List Say) (h : ∀ x ∈ al, sayW x) : ∀ x ∈ kept al, sayW x := by
  intro x hx
  rcases keep_mem _ _ _ hx with h0 | h0
  · cases h0
  · exact h x (List.mem_of_mem_take h0)
theorem open_len {P : List (List UInt8)} (h : Pre P) {sep : List UInt8} (hs : sep.length ≤ 3) (d sp lo : Nat) (al : List Say) (hw : ∀ x ∈ al, sayW x) : (openT P sep d sp lo al).length ≤ 130000000 := by
  have h1 := tag_len h sp lo
  have h2 := root_len h hs d
  have h3 := says_len h hs (kept al) (kept_wide al hw)
  have h4 : (kept al).length ≤ 20 := by
    have := keep_len (al.take 20) []
    rw [List.length_take] at this
    unfold kept
    simp only [List.length_nil] at this
    omega
  unfold openT
  simp only [List.length_append, List.length_cons, List.length_nil]
  have : (kept al).length * 6291510 ≤ 20 * 6291510 := Nat.mul_le_mul_right _ h4
  omega
theorem first_len (txs : List ByteArray) (h : ∀ s ∈ txs, s.size ≤ 1048576) : (escL (first txs)).length ≤ 6291456 ∧ (first txs).length ≤ 1048576 := by
  cases txs with
  | nil => exact ⟨Nat.zero_le _, Nat.zero_le _⟩
  | cons t r =>
    have := h t List.mem_cons_self
    refine ⟨esc_size t this, ?_⟩
    show t.data.toList.length ≤ _
    rw [← Lib.size_eq]; exact this
theorem tail_mem {α : Type} {l : List α} {x : α} (h : x ∈ l.tail) : x ∈ l := List.mem_of_mem_tail h
theorem cont_len {P : List (List UInt8)} (h : Pre P) {sep : List UInt8} (hs : sep.length ≤ 3) : ∀ (w : WT) (d : Nat) (txs : List ByteArray), w.wide → (∀ s ∈ txs, s.size ≤ 1048576) → (cont P sep w d txs).length ≤ w.count * 300000000 + 7000000
  | .nil, d, txs, _, ht => by
    have := (first_len txs ht).1
    show (escL (first txs)).length ≤ _
    omega
  | .cons sp lo al tx ks r, d, txs, hw, ht => by
    have h1 := (first_len txs ht).1
    have h2 := open_len h hs (d + 1) sp lo al hw.1.2.2.1
    have h3 := cont_len h hs ks (d + 1) tx hw.1.2.2.2.2 hw.1.2.2.2.1
    have h4 := cont_len h hs r d txs.tail hw.2 (fun s hx => ht s (tail_mem hx))
    have h5 := tag_len h sp lo
    have h6 : (closeT P sep sp lo).length ≤ 50 := by
      unfold closeT
      simp only [List.length_append, List.length_cons, List.length_nil]
      omega
    simp only [cont, WT.count]
    split
    · simp only [List.length_append]
      omega
    · simp only [List.length_append, List.length_nil]
      omega
theorem plain_len : ∀ (w : WT) (txs : List ByteArray), (∀ s ∈ txs, s.size ≤ 1048576) → (plainT w txs).length ≤ (w.length + 1) * 1048576
  | .nil, txs, ht => by
    have := (first_len txs ht).2
    show (first txs).length ≤ _
    simp only [WT.length]
    omega
  | .cons _ _ _ _ _ r, txs, ht => by
    have h1 := (first_len txs ht).2
    have h2 := plain_len r txs.tail (fun s hx => ht s (tail_mem hx))
    simp only [plainT, WT.length, List.length_append]
    omega
theorem kids_len : ∀ (w : WT) (d : Nat), (kids w d).length ≤ w.length
  | .nil, _ => Nat.le_refl _
  | .cons sp lo al tx ks r, d => by
    have := kids_len r d
    unfold kids
    split
    · simp only [N.length, WT.length]; omega
    · simp only [WT.length]; omega
/-- what holds of all trees, within and beside -/
def WT.AllE (p : Nat → Nat → List Say → List ByteArray → WT → Prop) : WT → Prop
  | .nil => True
  | .cons sp lo al tx ks r => p sp lo al tx ks ∧ r.AllE p
theorem WT.allE_of {p : Nat → Nat → List Say → List ByteArray → WT → Prop} (h : ∀ sp lo al tx ks, ks.AllE p → p sp lo al tx ks) : ∀ t : WT, t.AllE p
  | .nil => trivial
  | .cons sp lo al tx ks r => ⟨h sp lo al tx ks (WT.allE_of h ks), WT.allE_of h r⟩
/-- the node that is written -/
def nodeT (d sp lo : Nat) (al : List Say) (tx : List ByteArray) (ks : WT) : E := ⟨ba (spc sp), ba (nm lo), (kept al).map sayA, kids ks d, ba (plainT ks tx), 0, 0⟩
def treeOk (d : Nat) (al : List Say) (tx : List ByteArray) (ks : WT) : Bool := asOk al && okC ks d tx
end X
end Go.Proofs.YtakplnceiibmlaaGreatDoor
namespace Go.Proofs.YtakplnceiibmlaaGreatDoor
namespace X
open Go.Lib
theorem char_one (b : UInt8) (r : List UInt8) (h : b.toNat < 128) (hs : stands (b.toNat : Int) = true) : char (b :: r) = .ok ((b.toNat : Int), r) := by
  have hd : decodeL (b :: r) = (b.toNat, 1) := by
    rw [W.decodeL_N]
    show decodeN _ b.toNat _ _ _ = _
    unfold decodeN
    rw [if_pos h]
  unfold char
  rw [if_neg (by simp), hd]
  simp only
  rw [if_neg]
  · rfl
  · rintro (h1 | h1)
    · omega
    · rw [hs] at h1; cases h1
theorem comment_char (f : Nat) (b : UInt8) (r : List UInt8) (h : b.toNat < 128) (hs : stands (b.toNat : Int) = true) (h1 : [45, 45, 62].isPrefixOf (b :: r) = false) (h2 : [45, 45].isPrefixOf (b :: r) = false) : comment (f + 1) (b :: r) = comment f r := by
  conv => lhs; unfold comment
  rw [h1, h2, if_neg (by decide), if_neg (by decide), char_one b r h hs]
theorem pre2_no (c : UInt8) (h : c ≠ 45) (q r : List UInt8) : (45 :: 45 :: q).isPrefixOf (45 :: c :: r) = false := by
  rw [List.isPrefixOf_cons_cons, pre_no2 h, Bool.and_false]
def cm1 : List UInt8 := [60, 33, 45, 45, 32, 97, 32, 45, 32, 98, 32, 45, 45, 62]
def cm2 : List UInt8 := [60, 33, 45, 45, 45, 45, 62]
theorem comment_one (g : Nat) (r : List UInt8) : comment (g + 9) ([32, 97, 32, 45, 32, 98, 32, 45, 45, 62] ++ r) = .ok ((), r) := by
  show comment (g + 8 + 1) (32 :: 97 :: 32 :: 45 :: 32 :: 98 :: 32 :: 45 :: 45 :: 62 :: r) = _
  rw [comment_char _ 32 _ (by decide) (by decide) (pre_no2 (by decide) _ _) (pre_no2 (by decide) _ _)]
  rw [comment_char _ 97 _ (by decide) (by decide) (pre_no2 (by decide) _ _) (pre_no2 (by decide) _ _)]
  rw [comment_char _ 32 _ (by decide) (by decide) (pre_no2 (by decide) _ _) (pre_no2 (by decide) _ _)]
  rw [comment_char _ 45 _ (by decide) (by decide) (pre2_no 32 (by decide) _ _) (pre2_no 32 (by decide) _ _)]
  rw [comment_char _ 32 _ (by decide) (by decide) (pre_no2 (by decide) _ _) (pre_no2 (by decide) _ _)]
  rw [comment_char _ 98 _ (by decide) (by decide) (pre_no2 (by decide) _ _) (pre_no2 (by decide) _ _)]
  rw [comment_char _ 32 _ (by decide) (by decide) (pre_no2 (by decide) _ _) (pre_no2 (by decide) _ _)]
  unfold comment
  rw [if_pos (show [45, 45, 62].isPrefixOf (45 :: 45 :: 62 :: r) = true from rfl)]
  rfl
/-- an element's beginning is no comment -/
theorem misc_self (f : Nat) (c : UInt8) (r : List UInt8) (hc : c ≠ 33) : misc (f + 1) (60 :: c :: r) = .ok ((), 60 :: c :: r) := by
  unfold misc
  rw [skip_self 60 _ (by decide), if_neg]
  rw [List.isPrefixOf_cons_cons, pre_no2 hc, Bool.and_false]
  decide
theorem misc_one (f : Nat) {sep : List UInt8} (hs : Blanks sep) (c : UInt8) (r : List UInt8) (hc : c ≠ 33) : misc (f + 2) (sep ++ (cm1 ++ 60 :: c :: r)) = .ok ((), 60 :: c :: r) := by
  have hsk : skip (sep ++ (cm1 ++ 60 :: c :: r)) = cm1 ++ 60 :: c :: r := by
    rw [skip_app sep _ hs.2]
    exact skip_self 60 _ (by decide)
  have hco : comment ((cm1 ++ 60 :: c :: r).length + 1) ((cm1 ++ 60 :: c :: r).drop 4) = .ok ((), 60 :: c :: r) := by
    rw [show (cm1 ++ 60 :: c :: r).length + 1 = r.length + 8 + 9 by simp [cm1]]
    exact comment_one _ _
  unfold misc
  rw [hsk, if_pos (show [60, 33, 45, 45].isPrefixOf (cm1 ++ 60 :: c :: r) = true from rfl), hco]
  exact misc_self f c r hc
theorem misc_sep (f : Nat) {sep : List UInt8} (hs : Blanks sep) : misc (f + 1) sep = .ok ((), []) := by
  have hsk : skip sep = [] := by
    have := skip_app sep [] hs.2
    rw [List.append_nil] at this
    rw [this]; rfl
  unfold misc
  rw [hsk]
  rfl
theorem misc_two (f : Nat) : misc (f + 2) cm2 = .ok ((), []) := by
  unfold misc
  rw [show skip cm2 = cm2 from rfl, if_pos (show [60, 33, 45, 45].isPrefixOf cm2 = true from rfl)]
  rw [show comment (cm2.length + 1) (cm2.drop 4) = .ok ((), []) from rfl]
  rfl
theorem elem_first {P : List (List UInt8)} (hP : Pre P) (sep : List UInt8) (d sp lo : Nat) (al : List Say) (tx : List ByteArray) (ks : WT) : ∃ c r, elemT P sep d sp lo al tx ks = 60 :: c :: r ∧ letter c = true := by
  obtain ⟨c, x, h, hc⟩ := nmT_first (Pn P sp) (nm lo) (hP.pn sp) (nm_part lo)
  unfold elemT openT tagT
  rw [h]
  exact ⟨c, _, rfl, hc⟩
theorem nodes_count : ∀ (w : WT) (d : Nat), nodes w d ≤ w.count
  | .nil, _ => Nat.le_refl _
  | .cons _ _ _ _ ks r, d => by
    have h1 := nodes_count ks (d + 1)
    have h2 := nodes_count r d
    simp only [nodes, WT.count]
    split <;> omega
theorem parse_in {S : List UInt8} {l l2 l3 : List UInt8} {e : E} {n : Nat} {c : UInt8} {r : List UInt8} (h1 : misc (S.length + 1) (start S) = .ok ((), l)) (hl : l = 60 :: c :: r) (hc : letter c = true) (h2 : elem S 16 known0 0 l = .ok ((e, n), l2)) (h3 : misc (S.length + 1) l2 = .ok ((), l3)) (h4 : l3 = []) : parse S = .ok e := by
  have n33 : c ≠ 33 := by rintro rfl; revert hc; decide
  have n63 : c ≠ 63 := by rintro rfl; revert hc; decide
  have p2 : ∀ (q : UInt8), c ≠ q → [60, q].isPrefixOf l = false := fun q h => by rw [hl, List.isPrefixOf_cons_cons, pre_no h, Bool.and_false]
  unfold parse
  rw [h1]
  simp only
  rw [p2 33 n33, p2 63 n63, if_neg (by rw [hl, pre_yes]; decide), h2]
  simp only
  rw [h3]
  simp only
  rw [if_pos h4]
theorem parse_one {P : List (List UInt8)} (hP : Pre P) {sep : List UInt8} (hs : Blanks sep) (sp lo : Nat) (al : List Say) (tx : List ByteArray) (ks : WT) (ha : asOk al = true) (hok : okC ks 0 tx = true) (hn : ks.count ≤ 300) :
    ∃ e, Alike e.one (nodeT 0 sp lo al tx ks).one ∧ parse (head1 ++ (sep ++ (cm1 ++ (elemT P sep 0 sp lo al tx ks ++ sep)))) = .ok e := by
  generalize hS : head1 ++ (sep ++ (cm1 ++ (elemT P sep 0 sp lo al tx ks ++ sep))) = S
  obtain ⟨e, n, h1, h2⟩ := elem_back S hP hs sp lo al tx ks sep ha hok (by have := nodes_count ks 0; omega)
  obtain ⟨c, r, hf, hc⟩ := elem_first hP sep 0 sp lo al tx ks
  have n33 : c ≠ 33 := by rintro rfl; revert hc; decide
  have hst : start S = sep ++ (cm1 ++ (elemT P sep 0 sp lo al tx ks ++ sep)) := by
    unfold start
    rw [← hS, if_pos (by rw [List.isPrefixOf_iff_prefix]; exact List.prefix_append _ _)]
    simp
  have hlen : ∃ g, S.length + 1 = g + 2 := ⟨S.length - 1, by rw [← hS]; simp [head1]⟩
  obtain ⟨g, hg⟩ := hlen
  refine ⟨e, h1, parse_in (l := elemT P sep 0 sp lo al tx ks ++ sep) (l2 := sep) (l3 := []) ?_ (by rw [hf]; rfl) hc h2 ?_ rfl⟩
  · rw [hst, hg, hf]
    exact misc_one g hs c _ n33
  · rw [hg]; exact misc_sep _ hs
theorem parse_two {P : List (List UInt8)} (hP : Pre P) {sep : List UInt8} (hs : Blanks sep) (sp lo : Nat) (al : List Say) (tx : List ByteArray) (ks : WT) (ha : asOk al = true) (hok : okC ks 0 tx = true) (hn : ks.count ≤ 300) :
    ∃ e, Alike e.one (nodeT 0 sp lo al tx ks).one ∧ parse (elemT P sep 0 sp lo al tx ks ++ cm2) = .ok e := by
  generalize hS : elemT P sep 0 sp lo al tx ks ++ cm2 = S
  obtain ⟨e, n, h1, h2⟩ := elem_back S hP hs sp lo al tx ks cm2 ha hok (by have := nodes_count ks 0; omega)
  obtain ⟨c, r, hf, hc⟩ := elem_first hP sep 0 sp lo al tx ks
  have n33 : c ≠ 33 := by rintro rfl; revert hc; decide
  have n63 : c ≠ 63 := by rintro rfl; revert hc; decide
  have hSf : S = 60 :: c :: (r ++ cm2) := by rw [← hS, hf]; rfl
  have hst : start S = S := by
    unfold start
    rw [hSf]
    rw [if_neg (by unfold head1; rw [List.isPrefixOf_cons_cons, pre_no2 n63, Bool.and_false]; decide), if_neg (by unfold head2; rw [List.isPrefixOf_cons_cons, pre_no2 n63, Bool.and_false]; decide)]
  have hlen : ∃ g, S.length + 1 = g + 2 := ⟨S.length - 1, by rw [hSf]; simp⟩
  obtain ⟨g, hg⟩ := hlen
  rw [hS] at h2
  refine ⟨e, h1, parse_in (l := S) (l2 := cm2) (l3 := []) ?_ hSf hc h2 ?_ rfl⟩
  · rw [hst, hg, hSf]
    exact misc_self _ c _ n33
  · rw [hg]; exact misc_two _
theorem Alike.small : ∀ {a b : N}, Alike a b → b.small → a.small
  | .nil, .nil, _, _ => trivial
  | .cons _ _ al ks _ _ _ r, .cons _ _ al' ks' _ _ _ r', ⟨⟨_, _, h3, _⟩, h5, h6⟩, ⟨⟨g1, g2, g3⟩, g4⟩ => ⟨⟨by rw [h3]; exact g1, by rw [Alike.len h5]; exact g2, Alike.small h5 g3⟩, Alike.small h6 g4⟩
  | .nil, .cons _ _ _ _ _ _ _ _, h, _ => h.elim
  | .cons _ _ _ _ _ _ _ _, .nil, h, _ => h.elim
theorem kept_len (al : List Say) : (kept al).length ≤ 20 := by
  have := keep_len (al.take 20) []
  rw [List.length_take] at this
  unfold kept
  simp only [List.length_nil] at this
  omega
theorem kids_len2 : ∀ (w : WT) (d : Nat), (kids w d).length ≤ w.count
  | .nil, _ => Nat.le_refl _
  | .cons sp lo al tx ks r, d => by
    have := kids_len2 r d
    unfold kids
    split
    · simp only [N.length, WT.count]; omega
    · simp only [WT.count]; omega
theorem kids_small : ∀ (w : WT) (d : Nat), w.count ≤ 300 → (kids w d).small
  | .nil, _, _ => trivial
  | .cons sp lo al tx ks r, d, h => by
    simp only [WT.count] at h
    have h1 := kids_small ks (d + 1) (by omega)
    have h2 := kids_small r d (by omega)
    have h3 := kids_len2 ks (d + 1)
    have h4 := kept_len al
    unfold kids
    split
    · exact ⟨⟨by rw [List.length_map]; omega, by omega, h1⟩, h2⟩
    · exact h2
theorem node_small (d sp lo : Nat) (al : List Say) (tx : List ByteArray) (ks : WT) (h : ks.count ≤ 300) : (nodeT d sp lo al tx ks).one.small := by
  have h3 := kids_len2 ks d
  have h4 := kept_len al
  exact ⟨⟨by show ((kept al).map sayA).length ≤ _; rw [List.length_map]; omega, by show (kids ks d).length ≤ _; omega, kids_small ks d h⟩, trivial⟩
end X
end Go.Proofs.YtakplnceiibmlaaGreatDoor
