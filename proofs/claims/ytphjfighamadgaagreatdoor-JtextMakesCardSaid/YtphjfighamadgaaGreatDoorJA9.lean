/- write. -/
import Derived.Test.YtphjfighamadgaaGreatDoorJA8
import Derived.Test.YtphjfighamadgaaGreatDoorJA7
import Derived.Test.YtphjfighamadgaaGreatDoorJMay
import Derived.Test.YtphjfighamadgaaGreatDoorShelfN
import Derived.Test.YtphjfighamadgaaGreatDoorShelfS
namespace Go.Proofs.YtphjfighamadgaaGreatDoor
open Go.RowKit
open Go.Lib (hid validD)
def Pw (w : World) : Prop := Lib.TabIs Tryz.prog w "internal/strconv.uint64pow10" .u64 Lib.pow10Tab
theorem below_growJ (w : World) (k : Nat) (os : Array Obj) : Below w.heap.size w (Go.Sort.grow (w.drewN k) os) :=
  (below_drewN (Below.refl _ w) k).trans ⟨rfl, rfl, rfl, by simp [Go.Sort.grow], fun j hj => by simp only [Go.Sort.grow]; rw [Array.getElem?_append_left (show j < (w.drewN k).heap.size from hj)]⟩
namespace J
def T.num : T → Prop
  | .nil => True
  | .cons _ _ n _ l _ r => (-9223372036854775808 ≤ n ∧ n ≤ 9223372036854775807) ∧ l.num ∧ r.num
def V.num (x : V) : Prop := (-9223372036854775808 ≤ x.n ∧ x.n ≤ 9223372036854775807) ∧ x.l.num
theorem T.num_app : ∀ (a b : T), (a.app b).num → a.num ∧ b.num
  | .nil, _, h => ⟨trivial, h⟩
  | .cons _ _ _ _ _ _ r, b, ⟨h1, h2, h3⟩ => ⟨⟨h1, h2, (T.num_app r b h3).1⟩, (T.num_app r b h3).2⟩
theorem names_valid : ∀ (ns seen : List ByteArray), namesOk seen ns = true → ∀ x ∈ ns, validD x.data.toList = true
  | [], _, _, x, hx => by cases hx
  | y :: r, seen, h, x, hx => by
    simp only [namesOk, Bool.and_eq_true] at h
    rcases List.mem_cons.mp hx with rfl | hx
    · exact h.2.1
    · exact names_valid r (y :: seen) h.2.2 x hx
theorem may_parts {k : Nat} {b : Bool} {n : Int} {s : ByteArray} {l : T} {ns : List ByteArray} (h : (⟨k, b, n, s, l, ns⟩ : V).may = true) : (1 ≤ k ∧ k ≤ 6) ∧ (k = 6 → ns.length = l.length) ∧ validD s.data.toList = true ∧ (∀ x ∈ ns, validD x.data.toList = true) ∧ mayT l = true := by
  simp only [V.may, flat, plainOk, listOk, Bool.and_eq_true, decide_eq_true_eq] at h
  obtain ⟨⟨⟨h1, _⟩, ⟨_, _, h3⟩, h4, h5⟩, h6⟩ := h
  refine ⟨h1, fun e => ?_, h4, names_valid ns [] h5, h6⟩
  rw [e] at h3
  simpa using h3
theorem showT_snoc {ob : Bool} (x : V) : ∀ (t : T) (f : Bool) (ns : List ByteArray), showT ob f (t.snoc x) ns = showT ob f t ns ++ ((if f = true ∧ t.length = 0 then [] else [44]) ++ ((if ob then quoteL ((ns.drop t.length).headD ⟨#[]⟩).data.toList ++ [58] else []) ++ x.show))
  | .nil, f, ns => by
    obtain ⟨k, b, n, s, l, m⟩ := x
    simp only [T.snoc, T.app, V.one, showT, V.show, T.length, List.drop_zero, List.append_nil, List.nil_append, and_true]
  | .cons k b n s l m r, f, ns => by
    have := showT_snoc (ob := ob) x r false (ns.drop 1)
    unfold T.snoc at this ⊢
    simp only [T.app, showT, this, T.length]
    rw [List.drop_drop, show 1 + r.length = r.length + 1 by omega]
    simp
theorem showT_le {ob : Bool} : ∀ (a b : T) (f : Bool) (ns : List ByteArray), (showT ob f a ns).length ≤ (showT ob f (a.app b) ns).length
  | .nil, _, f, ns => by simp [showT]
  | .cons k b n s l m r, c, f, ns => by
    have := showT_le (ob := ob) r c false (ns.drop 1)
    simp only [T.app, showT, List.length_append] at this ⊢
    omega
theorem quoteIn_ge : ∀ (l : List UInt8), l.length ≤ (quoteIn l).length
  | [] => Nat.le_refl _
  | b :: r => by
    have h2 := quoteIn_ge r
    have h1 : 1 ≤ (byteJ b).length := by
      unfold byteJ
      repeat' split
      all_goals simp
    rw [quoteIn, List.length_append, List.length_cons]; omega
theorem quoteL_ge (l : List UInt8) : l.length + 2 ≤ (quoteL l).length := by
  have := quoteIn_ge l
  unfold quoteL
  rw [List.length_cons, List.length_append, List.length_singleton]; omega
theorem headD_drop {ns : List ByteArray} {i : Nat} {nm : ByteArray} (h : ns[i]? = some nm) : (ns.drop i).headD ⟨#[]⟩ = nm := by
  rw [List.headD_eq_head?_getD, List.head?_drop, h]; rfl
theorem SIn.addr {w : World} {P : Nat → Prop} {ns : List ByteArray} {a : Option Addr} {c : Nat} (h : SIn w P ns (.slice a ns.length c)) : ∃ g o, (0 < ns.length → a = some ⟨g, o, none⟩ ∧ ns.length ≤ c) ∧ ∀ j x, ns[j]? = some x → P g ∧ w.cell? ⟨g, o + j, none⟩ = some (.string x) := by
  rcases h with ⟨h, _⟩ | ⟨h0, g, o, c', h1, h2, h3, h4⟩
  · subst h
    exact ⟨0, 0, fun hne => by simp at hne, fun j x hj => by simp at hj⟩
  · simp only [Value.slice.injEq] at h1
    obtain ⟨rfl, _, rfl⟩ := h1
    exact ⟨g, o, fun _ => ⟨rfl, h3⟩, fun j x hj => ⟨h2, h4 j x hj⟩⟩
end J
/-- a box of the call's own, a list and names that were handed in, and the builder -/
structure WS (w : World) (B bb X : Nat) (P : Nat → Prop) (O : Obj) (acc : List UInt8) (t : J.T) (g o : Nat) (ns : List ByteArray) (gn on : Nat) (W : World) : Prop where
  v : W.heap[X]? = some O
  c : t ≠ .nil → t.At W P g o
  n : ∀ j x, ns[j]? = some x → P gn ∧ W.cell? ⟨gn, on + j, none⟩ = some (.string x)
  b : Below B w W
  k : Kept bb w W
  h : Holds B bb acc W
theorem WS.wrote {w W W' : World} {B bb X : Nat} {P : Nat → Prop} {O : Obj} {acc acc' : List UInt8} {t : J.T} {g o : Nat} {ns : List ByteArray} {gn on : Nat} (h : WS w B bb X P O acc t g o ns gn on W) (hP : ∀ b, P b → b < B) (hX : X ≠ bb) (hO : ∀ c fz, O ≠ .cells c 5 fz)
    (hh : Holds B bb acc' W') (hb : Below B W W') (hk : Kept bb W W') : WS w B bb X P O acc' t g o ns gn on W' :=
  ⟨hk X O h.v (fun e => hX (Option.some.inj e)) hO, fun hne => J.T.At.keep (fun _ h => h) (fun b hb' => hb.block b (hP b hb')) _ _ _ (h.c hne),
    fun j x hj => ⟨(h.n j x hj).1, by rw [World.cell?_of_block (w := W) (hb.block gn (hP gn (h.n j x hj).1))]; exact (h.n j x hj).2⟩, h.b.trans hb, Lib.OthersKept.trans h.k hk, hh⟩
theorem WS.after {w W W' : World} {B bb X : Nat} {P : Nat → Prop} {O : Obj} {acc : List UInt8} {t : J.T} {g o : Nat} {ns : List ByteArray} {gn on : Nat} (h : WS w B bb X P O acc t g o ns gn on W) (hP : ∀ b, P b → b < B) (hX : X ≠ bb) (hO : ∀ c fz, O ≠ .cells c 5 fz)
    (hb : Below W.heap.size W W') : WS w B bb X P O acc t g o ns gn on W' := h.wrote hP hX hO (Holds.after h.h hb) (hb.mono h.h.bw) (kept_after hb)
/-- the first of these values: its cells; the rest -/
theorem WS.head {w W : World} {B bb X : Nat} {P : Nat → Prop} {O : Obj} {acc : List UInt8} {k : Nat} {b : Bool} {n : Int} {s : ByteArray} {l : J.T} {ms : List ByteArray} {r : J.T} {g o : Nat} {ns : List ByteArray} {gn on : Nat} (h : WS w B bb X P O acc (.cons k b n s l ms r) g o ns gn on W) :
    ∃ (al : Option Addr) (cl : Nat) (an : Option Addr) (cn : Nat), W.cell? ⟨g, o, none⟩ = some (.int .u8 k) ∧ W.cell? ⟨g, o + 1, none⟩ = some (.bool b) ∧ W.cell? ⟨g, o + 2, none⟩ = some (.int .i64 n) ∧ W.cell? ⟨g, o + 3, none⟩ = some (.string s) ∧ W.cell? ⟨g, o + 4, none⟩ = some (.slice al l.length cl) ∧ W.cell? ⟨g, o + 5, none⟩ = some (.slice an ms.length cn) ∧
      (⟨k, b, n, s, l, ms⟩ : J.V).Has W P [.int .u8 k, .bool b, .int .i64 n, .string s, .slice al l.length cl, .slice an ms.length cn] ∧ WS w B bb X P O acc r g (o + 6) ns gn on W := by
  obtain ⟨hv, hc, hn0, hb, hk, hh⟩ := h
  obtain ⟨_, h0, h1, h2, h3, ⟨lv, h4, hl⟩, ⟨nv, h5, hn⟩, hr⟩ := hc (fun h => by cases h)
  have hl' : l.In W P lv := by
    rcases hl with hl | ⟨g', o', c, h6, h7, h8, h9⟩
    · exact Or.inl hl
    · exact Or.inr ⟨g', o', c, h6, h7, h8, h9⟩
  obtain ⟨al, cl, rfl⟩ := hl'.shape
  obtain ⟨an, cn, rfl⟩ := hn.shape
  exact ⟨al, cl, an, cn, h0, h1, h2, h3, h4, h5, ⟨_, _, rfl, hl', hn⟩, hv, fun _ => hr, hn0, hb, hk, hh⟩
def WriteC (x : J.V) : Prop := x.small → x.num → x.may = true → ∀ (w : World) (B bb : Nat) (l0 : List UInt8) (P : Nat → Prop) (cs : List Value), Holds B bb l0 w → x.Has w P cs → (∀ b, P b → b < B) → (∀ W, Below B w W → Tz W ∧ Pw W) → l0.length + 6 * x.show.length + 2 ≤ 10000000000000 →
  Calls Tryz.prog 34 #[.pointer (some ⟨bb, 0, none⟩), .agg cs.toArray] w fun e w' => e = .returned (.tuple #[]) ∧ Holds B bb (l0 ++ x.show) w' ∧ Below B w w' ∧ Kept bb w w'
set_option maxRecDepth 100000 in
set_option maxHeartbeats 2000000 in
theorem write_flat1 (b : Bool) (n : Int) (s : ByteArray) (l : J.T) (ns : List ByteArray) : WriteC ⟨1, b, n, s, l, ns⟩ := by
  intro hsm hnum hmay w B bb l0 P cs hO hhas hPP hZ hlen
  obtain ⟨hs1, hs2, hs3⟩ := hsm
  obtain ⟨hn1, hn2⟩ := hnum
  obtain ⟨lv, nv, rfl, hl, hn⟩ := hhas
  have hl : l.In w P lv := hl
  have hn : J.SIn w P ns nv := hn
  obtain ⟨la, lc, rfl⟩ := hl.shape
  obtain ⟨na, nc, rfl⟩ := hn.shape
  obtain ⟨hk16, hk6, hvs, hvn, hml⟩ := J.may_parts hmay
  have hbw := Holds.bw hO
  have hbb := Holds.lt hO
  simp only at hn1 hn2 hs1 hs3
  obtain ⟨w1, hw1⟩ : ∃ w1, w.alloc (.cells #[.int .u8 1, .bool b, .int .i64 n, .string s, .slice la l.length lc, .slice na ns.length nc] 25) = w1 := ⟨_, rfl⟩
  have hbl : Below w.heap.size w w1 := by rw [← hw1]; exact (Below.refl _ w).alloc (Nat.le_refl _) _
  have hv1 : w1.heap[w.heap.size]? = some (.cells #[.int .u8 1, .bool b, .int .i64 n, .string s, .slice la l.length lc, .slice na ns.length nc] 25 (0, 0)) := by rw [← hw1]; exact heap_alloc_new w _
  have x0 : w1.cell? ⟨w.heap.size, 0, none⟩ = some (.int .u8 1) := (x6_of hv1).1
  obtain ⟨_, x1, x2, x3, x4, x5⟩ := x6_of hv1
  have HO1 := hid (Holds.after hO hbl)
  have hb1 : B ≤ w1.heap.size := Nat.le_trans hbw hbl.size
  have HB := hid (hbl.mono hbw)
  have HK := hid (kept_after (b := bb) hbl)
  have HZ1 : Hid (Pw w1) := (hZ w1 HB.out).2
  have HL := hid hlen
  have HW1 := hid hw1
  clear hl hn hw1 hv1 hbl hmay hO hml hPP hlen hbw hs1 hs2 hs3 hn2 hvn hk6 hk16
  have hl0 : l0.length + 2 ≤ 10000000000000 := by have := HL.out; omega
  go_enter Tryz.func34, Tryz.ntmps34
  go_upto_region 1 with fail
  rw [show w.alloc (.cells #[.int .u8 1, .bool b, .int .i64 n, .string s, .slice la l.length lc, .slice na ns.length nc] 25) = w1 from HW1.out]
  clear HW1
  have cW := writeString_any B bb l0 ⟨#[110, 117, 108, 108]⟩ w1 HO1.out (by show _ + 4 ≤ _; omega) hb1
  go_wp2_with fail
  refine cW.mono ?_
  rintro e w2 ⟨rfl, h1, h2, h3⟩
  have HF : Hid (Holds B bb (l0 ++ (⟨1, b, n, s, l, ns⟩ : J.V).show) w2 ∧ Below B w w2 ∧ Kept bb w w2) := ⟨by exact h1, HB.out.trans h2, Lib.OthersKept.trans HK.out h3⟩
  clear h1 h2 h3
  go_wp2_with fail
  go_end0
  exact ⟨rfl, HF.out⟩
set_option maxRecDepth 100000 in
set_option maxHeartbeats 2000000 in
theorem write_flat2 (b : Bool) (n : Int) (s : ByteArray) (l : J.T) (ns : List ByteArray) : WriteC ⟨2, b, n, s, l, ns⟩ := by
  intro hsm hnum hmay w B bb l0 P cs hO hhas hPP hZ hlen
  obtain ⟨hs1, hs2, hs3⟩ := hsm
  obtain ⟨hn1, hn2⟩ := hnum
  obtain ⟨lv, nv, rfl, hl, hn⟩ := hhas
  have hl : l.In w P lv := hl
  have hn : J.SIn w P ns nv := hn
  obtain ⟨la, lc, rfl⟩ := hl.shape
  obtain ⟨na, nc, rfl⟩ := hn.shape
  obtain ⟨hk16, hk6, hvs, hvn, hml⟩ := J.may_parts hmay
  have hbw := Holds.bw hO
  have hbb := Holds.lt hO
  simp only at hn1 hn2 hs1 hs3
  obtain ⟨w1, hw1⟩ : ∃ w1, w.alloc (.cells #[.int .u8 2, .bool b, .int .i64 n, .string s, .slice la l.length lc, .slice na ns.length nc] 25) = w1 := ⟨_, rfl⟩
  have hbl : Below w.heap.size w w1 := by rw [← hw1]; exact (Below.refl _ w).alloc (Nat.le_refl _) _
  have hv1 : w1.heap[w.heap.size]? = some (.cells #[.int .u8 2, .bool b, .int .i64 n, .string s, .slice la l.length lc, .slice na ns.length nc] 25 (0, 0)) := by rw [← hw1]; exact heap_alloc_new w _
  have x0 : w1.cell? ⟨w.heap.size, 0, none⟩ = some (.int .u8 2) := (x6_of hv1).1
  obtain ⟨_, x1, x2, x3, x4, x5⟩ := x6_of hv1
  have HO1 := hid (Holds.after hO hbl)
  have hb1 : B ≤ w1.heap.size := Nat.le_trans hbw hbl.size
  have HB := hid (hbl.mono hbw)
  have HK := hid (kept_after (b := bb) hbl)
  have HZ1 : Hid (Pw w1) := (hZ w1 HB.out).2
  have HL := hid hlen
  have HW1 := hid hw1
  clear hl hn hw1 hv1 hbl hmay hO hml hPP hlen hbw hs1 hs2 hs3 hn2 hvn hk6 hk16
  have hl0 : l0.length + 2 ≤ 10000000000000 := by have := HL.out; omega
  go_enter Tryz.func34, Tryz.ntmps34
  go_upto_region 1 with fail
  rw [show w.alloc (.cells #[.int .u8 2, .bool b, .int .i64 n, .string s, .slice la l.length lc, .slice na ns.length nc] 25) = w1 from HW1.out]
  clear HW1
  go_wp2_with fail
  refine (Tryz.strconv_FormatBool b w1).mono ?_
  rintro e w2' ⟨rfl, hw⟩
  rw [hw]
  clear hw
  go_wp2_with fail
  refine (writeString_any B bb l0 ⟨(Lib.formatBool b).toArray⟩ w1 HO1.out (by show _ + (Lib.formatBool b).toArray.size ≤ _; cases b <;> (show _ + List.length (_ :: _) ≤ _) <;> simp <;> omega) hb1).mono ?_
  rintro e w2 ⟨rfl, h1, h2, h3⟩
  have HF : Hid (Holds B bb (l0 ++ (⟨2, b, n, s, l, ns⟩ : J.V).show) w2 ∧ Below B w w2 ∧ Kept bb w w2) := ⟨by cases b <;> exact h1, HB.out.trans h2, Lib.OthersKept.trans HK.out h3⟩
  clear h1 h2 h3
  go_wp2_with fail
  go_end0
  exact ⟨rfl, HF.out⟩
set_option maxRecDepth 100000 in
set_option maxHeartbeats 2000000 in
theorem write_flat3 (b : Bool) (n : Int) (s : ByteArray) (l : J.T) (ns : List ByteArray) : WriteC ⟨3, b, n, s, l, ns⟩ := by
  intro hsm hnum hmay w B bb l0 P cs hO hhas hPP hZ hlen
  obtain ⟨hs1, hs2, hs3⟩ := hsm
  obtain ⟨hn1, hn2⟩ := hnum
  obtain ⟨lv, nv, rfl, hl, hn⟩ := hhas
  have hl : l.In w P lv := hl
  have hn : J.SIn w P ns nv := hn
  obtain ⟨la, lc, rfl⟩ := hl.shape
  obtain ⟨na, nc, rfl⟩ := hn.shape
  obtain ⟨hk16, hk6, hvs, hvn, hml⟩ := J.may_parts hmay
  have hbw := Holds.bw hO
  have hbb := Holds.lt hO
  simp only at hn1 hn2 hs1 hs3
  obtain ⟨w1, hw1⟩ : ∃ w1, w.alloc (.cells #[.int .u8 3, .bool b, .int .i64 n, .string s, .slice la l.length lc, .slice na ns.length nc] 25) = w1 := ⟨_, rfl⟩
  have hbl : Below w.heap.size w w1 := by rw [← hw1]; exact (Below.refl _ w).alloc (Nat.le_refl _) _
  have hv1 : w1.heap[w.heap.size]? = some (.cells #[.int .u8 3, .bool b, .int .i64 n, .string s, .slice la l.length lc, .slice na ns.length nc] 25 (0, 0)) := by rw [← hw1]; exact heap_alloc_new w _
  have x0 : w1.cell? ⟨w.heap.size, 0, none⟩ = some (.int .u8 3) := (x6_of hv1).1
  obtain ⟨_, x1, x2, x3, x4, x5⟩ := x6_of hv1
  have HO1 := hid (Holds.after hO hbl)
  have hb1 : B ≤ w1.heap.size := Nat.le_trans hbw hbl.size
  have HB := hid (hbl.mono hbw)
  have HK := hid (kept_after (b := bb) hbl)
  have HZ1 : Hid (Pw w1) := (hZ w1 HB.out).2
  have HL := hid hlen
  have HW1 := hid hw1
  clear hl hn hw1 hv1 hbl hmay hO hml hPP hlen hbw hs1 hs2 hs3 hn2 hvn hk6 hk16
  have hl0 : l0.length + 2 ≤ 10000000000000 := by have := HL.out; omega
  go_enter Tryz.func34, Tryz.ntmps34
  go_upto_region 1 with fail
  rw [show w.alloc (.cells #[.int .u8 3, .bool b, .int .i64 n, .string s, .slice la l.length lc, .slice na ns.length nc] 25) = w1 from HW1.out]
  clear HW1
  go_wp2_with fail
  refine (Tryz.strconv_FormatInt_10 n hn1.1 hn1.2 w1 HZ1.out).mono ?_
  rintro e w2' ⟨rfl, kk, os, hw⟩
  have hb2 : Below w1.heap.size w1 w2' := by rw [hw]; exact below_growJ w1 kk os
  have HO2 := hid (Holds.after HO1.out hb2)
  have hb2s := hb2.size
  have HB1 := hid (HB.out.trans (hb2.mono hb1))
  have HK1 : Hid (Kept bb w w2') := Lib.OthersKept.trans HK.out (kept_after hb2)
  clear hw hb2
  go_wp2_with fail
  refine (writeString_any B bb l0 ⟨(Lib.itoa n).toArray⟩ w2' HO2.out (by have := HL.out; show _ + (Lib.itoa n).toArray.size ≤ _; rw [List.size_toArray]; have h := this; simp only [J.V.show] at h; simp at h; omega) (by omega)).mono ?_
  rintro e w2 ⟨rfl, h1, h2, h3⟩
  have HF : Hid (Holds B bb (l0 ++ (⟨3, b, n, s, l, ns⟩ : J.V).show) w2 ∧ Below B w w2 ∧ Kept bb w w2) := ⟨by exact h1, HB1.out.trans h2, Lib.OthersKept.trans HK1.out h3⟩
  clear h1 h2 h3
  go_wp2_with fail
  go_end0
  exact ⟨rfl, HF.out⟩
set_option maxRecDepth 100000 in
set_option maxHeartbeats 2000000 in
theorem write_flat4 (b : Bool) (n : Int) (s : ByteArray) (l : J.T) (ns : List ByteArray) : WriteC ⟨4, b, n, s, l, ns⟩ := by
  intro hsm hnum hmay w B bb l0 P cs hO hhas hPP hZ hlen
  obtain ⟨hs1, hs2, hs3⟩ := hsm
  obtain ⟨hn1, hn2⟩ := hnum
  obtain ⟨lv, nv, rfl, hl, hn⟩ := hhas
  have hl : l.In w P lv := hl
  have hn : J.SIn w P ns nv := hn
  obtain ⟨la, lc, rfl⟩ := hl.shape
  obtain ⟨na, nc, rfl⟩ := hn.shape
  obtain ⟨hk16, hk6, hvs, hvn, hml⟩ := J.may_parts hmay
  have hbw := Holds.bw hO
  have hbb := Holds.lt hO
  simp only at hn1 hn2 hs1 hs3
  obtain ⟨w1, hw1⟩ : ∃ w1, w.alloc (.cells #[.int .u8 4, .bool b, .int .i64 n, .string s, .slice la l.length lc, .slice na ns.length nc] 25) = w1 := ⟨_, rfl⟩
  have hbl : Below w.heap.size w w1 := by rw [← hw1]; exact (Below.refl _ w).alloc (Nat.le_refl _) _
  have hv1 : w1.heap[w.heap.size]? = some (.cells #[.int .u8 4, .bool b, .int .i64 n, .string s, .slice la l.length lc, .slice na ns.length nc] 25 (0, 0)) := by rw [← hw1]; exact heap_alloc_new w _
  have x0 : w1.cell? ⟨w.heap.size, 0, none⟩ = some (.int .u8 4) := (x6_of hv1).1
  obtain ⟨_, x1, x2, x3, x4, x5⟩ := x6_of hv1
  have HO1 := hid (Holds.after hO hbl)
  have hb1 : B ≤ w1.heap.size := Nat.le_trans hbw hbl.size
  have HB := hid (hbl.mono hbw)
  have HK := hid (kept_after (b := bb) hbl)
  have HZ1 : Hid (Pw w1) := (hZ w1 HB.out).2
  have HL := hid hlen
  have HW1 := hid hw1
  clear hl hn hw1 hv1 hbl hmay hO hml hPP hlen hbw hs1 hs2 hs3 hn2 hvn hk6 hk16
  have hl0 : l0.length + 2 ≤ 10000000000000 := by have := HL.out; omega
  go_enter Tryz.func34, Tryz.ntmps34
  go_upto_region 1 with fail
  rw [show w.alloc (.cells #[.int .u8 4, .bool b, .int .i64 n, .string s, .slice la l.length lc, .slice na ns.length nc] 25) = w1 from HW1.out]
  clear HW1
  have cQ := quote_any HO1.out hvs (fun W hW => (hZ W (HB.out.trans hW)).1) (by have := HL.out; have h := J.quoteL_ge s.data.toList; simp only [J.V.show] at this; simp at this; rw [← Lib.size_eq] at h; omega)
  clear hZ
  go_wp2_with fail
  refine cQ.mono ?_
  rintro e w2 ⟨rfl, h1, h2, h3⟩
  have HF : Hid (Holds B bb (l0 ++ (⟨4, b, n, s, l, ns⟩ : J.V).show) w2 ∧ Below B w w2 ∧ Kept bb w w2) := ⟨by exact h1, HB.out.trans h2, Lib.OthersKept.trans HK.out h3⟩
  clear h1 h2 h3
  go_wp2_with fail
  go_end0
  exact ⟨rfl, HF.out⟩
end Go.Proofs.YtphjfighamadgaaGreatDoor
namespace Go.Proofs.YtphjfighamadgaaGreatDoor
open Go.RowKit
open Go.Lib (hid validD)
namespace J
/-- a round's piece fits in -/
theorem piece_fits {ob : Bool} {t1 r : T} {x : V} {ns : List ByteArray} {l : T} (h : t1.app (x.one.app r) = l) : (showT ob true t1 ns).length + ((if t1.length = 0 then [] else [(44 : UInt8)]).length + ((if ob then quoteL ((ns.drop t1.length).headD ⟨#[]⟩).data.toList ++ [58] else []).length + x.show.length)) ≤ (showT ob true l ns).length := by
  have h1 := showT_snoc (ob := ob) x t1 true ns
  have h2 := showT_le (ob := ob) (t1.snoc x) r true ns
  rw [show (t1.snoc x).app r = l by rw [← h]; unfold T.snoc; rw [T.app_assoc]] at h2
  rw [h1] at h2
  simp only [List.length_append, true_and] at h2
  omega
end J
set_option maxRecDepth 100000 in
set_option maxHeartbeats 4000000 in
theorem write_list5 (b : Bool) (n : Int) (s : ByteArray) (l : J.T) (ns : List ByteArray) (hall : l.All WriteC) : WriteC ⟨5, b, n, s, l, ns⟩ := by
  intro hsm hnum hmay w B bb l0 P cs hO hhas hPP hZ hlen
  obtain ⟨hs1, hs2, hs3⟩ := hsm
  obtain ⟨hn1, hn2⟩ := hnum
  obtain ⟨lv, nv, rfl, hl, hn⟩ := hhas
  have hl : l.In w P lv := hl
  have hn : J.SIn w P ns nv := hn
  obtain ⟨la, lc, rfl⟩ := hl.shape
  obtain ⟨na, nc, rfl⟩ := hn.shape
  obtain ⟨hk16, hk6, hvs, hvn, hml⟩ := J.may_parts hmay
  have hbw := Holds.bw hO
  have hbb := Holds.lt hO
  simp only at hn1 hn2 hs1 hs3
  obtain ⟨g, o, hgo⟩ := in_addr hl
  obtain ⟨gn, on, hgn, hna⟩ := hn.addr
  have hZ0 := hZ
  obtain ⟨len, hle⟩ : ∃ len, l.length = len := ⟨_, rfl⟩
  obtain ⟨nn, hnn⟩ : ∃ nn, ns.length = nn := ⟨_, rfl⟩
  skip
  obtain ⟨w1, hw1⟩ : ∃ w1, w.alloc (.cells #[.int .u8 5, .bool b, .int .i64 n, .string s, .slice la len lc, .slice na nn nc] 25) = w1 := ⟨_, rfl⟩
  have hbl : Below w.heap.size w w1 := by rw [← hw1]; exact (Below.refl _ w).alloc (Nat.le_refl _) _
  have hv1 : w1.heap[w.heap.size]? = some (.cells #[.int .u8 5, .bool b, .int .i64 n, .string s, .slice la len lc, .slice na nn nc] 25 (0, 0)) := by rw [← hw1]; exact heap_alloc_new w _
  obtain ⟨X, hX⟩ : ∃ X, w.heap.size = X := ⟨_, rfl⟩
  have HXE := hid hX
  have HP := hid hPP
  have HX : Hid (X ≠ bb) := by show _ ≠ _; omega
  have HOO : Hid (∀ c fz, ((.cells #[.int .u8 5, .bool b, .int .i64 n, .string s, .slice la len lc, .slice na nn nc] 25 (0, 0)) : Obj) ≠ .cells c 5 fz) := fun c fz e => by simp at e
  have hbw1 : B ≤ w1.heap.size := Nat.le_trans hbw hbl.size
  have HS1 : Hid (WS w B bb X P (.cells #[.int .u8 5, .bool b, .int .i64 n, .string s, .slice la len lc, .slice na nn nc] 25 (0, 0)) l0 l g o ns gn on w1) :=
    ⟨by rw [← hX]; exact hv1, fun hne => J.T.At.keep (fun _ h => h) (fun b hb => hbl.block b (Nat.lt_of_lt_of_le (hPP b hb) hbw)) _ _ _ (hgo hne).2.2,
      fun j x hj => ⟨(hna j x hj).1, by rw [World.cell?_of_block (w := w) (hbl.block gn (Nat.lt_of_lt_of_le (hPP gn (hna j x hj).1) hbw))]; exact (hna j x hj).2⟩, hbl.mono hbw, kept_after hbl, Holds.after hO hbl⟩
  obtain ⟨x0, x1, x2, x3, x4, x5⟩ := x6_of HS1.out.v
  have HGO := hid hgo
  have HGN := hid hgn
  rw [hle] at HGO hs1 ⊢
  rw [hnn] at HGN ⊢
  have HW1 := hid hw1
  have HL := hid hlen
  have HLE := hid hle
  have HNN := hid hnn
  have HZ := hid hZ
  have HALL := hid hall
  have HSM := hid hs3
  have HNU := hid hn2
  have HML := hid hml
  have HVV := hid hvn
  have hl0 : l0.length + 8 ≤ 10000000000000 := by
    have e : (J.V.show ⟨5, b, n, s, l, ns⟩) = 91 :: (J.showT false true l ns ++ [93]) := rfl
    rw [e] at hlen
    simp only [List.length_append, List.length_cons, List.length_nil] at hlen
    omega
  have cB := writeByte_any B bb l0 91 w1 HS1.out.h (by omega) hbw1
  clear hl hn hw1 hv1 hbl hmay hO hml hPP hlen hbw hs2 hs3 hn1 hn2 hvn hvs hk6 hk16 hgo hgn hna hZ hZ0 hle hnn hall hbb hX hbw1
  go_enter Tryz.func34, Tryz.ntmps34
  go_upto_region 1 with fail
  rw [show w.alloc (.cells #[.int .u8 5, .bool b, .int .i64 n, .string s, .slice la len lc, .slice na nn nc] 25) = w1 from HW1.out, HXE.out]
  clear HW1
  go_wp2_with fail
  refine cB.mono ?_
  rintro e w2 ⟨rfl, h1, h2, h3⟩
  have HS2 := hid (HS1.out.wrote HP.out HX.out HOO.out h1 h2 h3)
  clear h1 h2 h3 cB x0 x1 x2 x3 x4 x5 HS1
  obtain ⟨x0, x1, x2, x3, x4, x5⟩ := x6_of HS2.out.v
  obtain ⟨acc0, hacc0⟩ : ∃ a, l0 ++ [91] = a := ⟨_, rfl⟩
  have HACC0 : Hid (acc0 = l0 ++ (91 :: J.showT false true .nil ns)) := by show _ = _; rw [← hacc0]; rfl
  rw [hacc0] at HS2
  clear hacc0
  have HS3 : Hid (WS w B bb X P (.cells #[.int .u8 5, .bool b, .int .i64 n, .string s, .slice la len lc, .slice na nn nc] 25 (0, 0)) acc0 l g (o + 0 * 6) ns gn on w2) := by rw [Nat.zero_mul, Nat.add_zero]; exact HS2
  clear HS2
  go_upto_region 7 with fail
  clear x0 x1 x2 x3 x4 x5
  go_loopw [19] (fun vi wr => ∃ (i : Nat), i ≤ len ∧ vi = .int .i64 i ∧ ∃ (t1 t2 : J.T) (acc : List UInt8), Hid (acc = l0 ++ (91 :: J.showT false true t1 ns)) ∧ Hid (t1.app t2 = l ∧ t1.length = i) ∧ Hid (WS w B bb X P (.cells #[.int .u8 5, .bool b, .int .i64 n, .string s, .slice la len lc, .slice na nn nc] 25 (0, 0)) acc t2 g (o + i * 6) ns gn on wr)) (fun vi _ => len - (intOf vi).toNat)
  case atStart => exact ⟨0, Nat.zero_le _, rfl, .nil, l, acc0, HACC0, hid ⟨rfl, rfl⟩, HS3⟩
  case round =>
    obtain ⟨i, hi, rfl, t1, t2, acc, HAC, HA, HI⟩ := hrel
    have HACC := hid HAC.out.symm
    clear HS3 HACC0 HAC
    by_cases hlt : i < len
    · have d0 : decide ((i : Int) < (len : Int)) = true := decide_eq_true (by omega)
      have d1 : decide (i < len) = true := decide_eq_true (by omega)
      have hlen2 : t1.length + t2.length = len := by rw [← HLE.out, ← HA.out.1, J.T.app_length]
      cases t2 with
      | nil => have := HA.out.2; simp [J.T.length] at hlen2; omega
      | cons k1 b1 v1 s1 l1 ns1 r =>
        obtain ⟨al, cl, an, cn, y0, y1, y2, y3, y4, y5, hh, hrest⟩ := HI.out.head
        obtain ⟨hga, hgc, -⟩ := HGO.out (fun h => by have := HLE.out; rw [h] at this; simp [J.T.length] at this; omega)
        subst hga
        have HC := hid (show WriteC ⟨k1, b1, v1, s1, l1, ns1⟩ from (J.T.All.app (p := WriteC) t1 (.cons k1 b1 v1 s1 l1 ns1 r) (by rw [HA.out.1]; exact HALL.out)).2.1)
        have HES : Hid (J.V.small ⟨k1, b1, v1, s1, l1, ns1⟩ ∧ J.V.num ⟨k1, b1, v1, s1, l1, ns1⟩ ∧ (⟨k1, b1, v1, s1, l1, ns1⟩ : J.V).may = true) := by
          refine ⟨(J.T.small_app t1 (.cons k1 b1 v1 s1 l1 ns1 r) (by rw [HA.out.1]; exact HSM.out)).2.1, ?_, ?_⟩
          · have := (J.T.num_app t1 (.cons k1 b1 v1 s1 l1 ns1 r) (by rw [HA.out.1]; exact HNU.out)).2
            exact ⟨this.1, this.2.1⟩
          · have h := HML.out
            rw [← HA.out.1, J.mayT_app, J.mayT_cons, Bool.and_eq_true, Bool.and_eq_true] at h
            exact h.2.1
        have HH := hid hh
        have HRE := hid hrest
        have hi0 : (0 : Int) ≤ (i : Int) := by omega
        have hi1 : (i : Int) < (len : Int) := by omega
        obtain ⟨x0, x1, x2, x3, x4, x5⟩ := x6_of HI.out.v
        clear hh hrest hlen2
        go_upto_region 9 with fail
        obtain ⟨w5, hw5⟩ : ∃ w5, wr.alloc (.cells #[.int .u8 k1, .bool b1, .int .i64 v1, .string s1, .slice al l1.length cl, .slice an ns1.length cn] 25) = w5 := ⟨_, rfl⟩
        obtain ⟨Y, hY⟩ : ∃ Y, wr.heap.size = Y := ⟨_, rfl⟩
        have hb5 : Below wr.heap.size wr w5 := by rw [← hw5]; exact (Below.refl _ wr).alloc (Nat.le_refl _) _
        have HY5 : Hid (w5.heap[Y]? = some (.cells #[.int .u8 k1, .bool b1, .int .i64 v1, .string s1, .slice al l1.length cl, .slice an ns1.length cn] 25 (0, 0))) := by show _ = _; rw [← hw5, ← hY]; exact heap_alloc_new wr _
        have HYb : Hid (Y ≠ bb) := by show _ ≠ _; have := Holds.lt HI.out.h; omega
        have HS5 := hid (HRE.out.after HP.out HX.out HOO.out hb5)
        have HA5 : Hid (B ≤ w5.heap.size) := Nat.le_trans (Holds.bw HI.out.h) hb5.size
        have HK5 := hid HI.out.b
        rw [hw5, hY]
        clear hw5 hY hb5 y0 y1 y2 y3 y4 y5 x0 x1 x2 x3 x4 x5
        by_cases hi9 : 0 < i
        · have e0 : decide ((i : Int) > 0) = true := decide_eq_true (by omega)
          have e1 : decide (0 < i) = true := decide_eq_true hi9
          have HPC : Hid (acc.length + ([(44 : UInt8)].length + ((([] : List UInt8)).length + (J.V.show ⟨k1, b1, v1, s1, l1, ns1⟩).length)) ≤ l0.length + (J.V.show ⟨5, b, n, s, l, ns⟩).length) := by
            have h := J.piece_fits (ob := false) (t1 := t1) (r := r) (x := ⟨k1, b1, v1, s1, l1, ns1⟩) (ns := ns) (l := l) HA.out.1
            rw [HA.out.2] at h
            rw [if_neg (by omega)] at h
            show _ ≤ _
            rw [← HACC.out]
            have e : (J.V.show ⟨5, b, n, s, l, ns⟩) = 91 :: (J.showT false true l ns ++ [93]) := rfl
            rw [e]
            simp only [List.length_append, List.length_cons, List.length_nil, Bool.false_eq_true, if_false] at h ⊢
            omega
          have hal : l0.length ≤ acc.length := by rw [← HACC.out, List.length_append]; omega
          obtain ⟨x0, x1, x2, x3, x4, x5⟩ := x6_of HS5.out.v
          obtain ⟨y0, y1, y2, y3, y4, y5⟩ := x6_of HY5.out
          have cK := writeByte_any B bb acc 44 w5 HS5.out.h (by have h := HPC.out; have h2 := HL.out; simp only [List.length_cons, List.length_nil] at h ⊢; omega) HA5.out
          go_wp2_with fail
          refine cK.mono ?_
          rintro e w6 ⟨rfl, h1, h2, h3⟩
          have HS6 := hid (HS5.out.wrote HP.out HX.out HOO.out h1 h2 h3)
          have HY6 : Hid (w6.heap[Y]? = some (.cells #[.int .u8 k1, .bool b1, .int .i64 v1, .string s1, .slice al l1.length cl, .slice an ns1.length cn] 25 (0, 0))) := h3 Y _ HY5.out (fun e => HYb.out (Option.some.inj e)) (fun c fz e => by simp at e)
          have HA6 : Hid (B ≤ w6.heap.size) := h1.bw
          clear h1 h2 h3 cK x0 x1 x2 x3 x4 x5 y0 y1 y2 y3 y4 y5
          obtain ⟨x0, x1, x2, x3, x4, x5⟩ := x6_of HS6.out.v
          obtain ⟨y0, y1, y2, y3, y4, y5⟩ := x6_of HY6.out
          have cK := HC.out HES.out.1 HES.out.2.1 HES.out.2.2 w6 B bb (acc ++ [44]) P _ HS6.out.h (J.V.Has.keep (fun _ h => h) (fun j hj => (fun W (hW : Below B w W) => (hW.block j (HP.out j hj)).trans (HK5.out.block j (HP.out j hj)).symm) _ HS6.out.b) HH.out) HP.out (fun W hW => HZ.out W (HS6.out.b.trans hW)) (by have h := HPC.out; have h2 := HL.out; simp only [List.length_append, List.length_cons, List.length_nil] at h ⊢; omega)
          go_wp2_with fail
          refine cK.mono ?_
          rintro e w7 ⟨rfl, h1, h2, h3⟩
          have HS7 := hid (HS6.out.wrote HP.out HX.out HOO.out h1 h2 h3)
          have HY7 : Hid (w7.heap[Y]? = some (.cells #[.int .u8 k1, .bool b1, .int .i64 v1, .string s1, .slice al l1.length cl, .slice an ns1.length cn] 25 (0, 0))) := h3 Y _ HY6.out (fun e => HYb.out (Option.some.inj e)) (fun c fz e => by simp at e)
          have HA7 : Hid (B ≤ w7.heap.size) := h1.bw
          clear h1 h2 h3 cK x0 x1 x2 x3 x4 x5 y0 y1 y2 y3 y4 y5
          have HEQ : Hid (((acc ++ [44]) ++ J.V.show ⟨k1, b1, v1, s1, l1, ns1⟩) = l0 ++ (91 :: J.showT false true (t1.snoc ⟨k1, b1, v1, s1, l1, ns1⟩) ns)) := by
            show _ = _
            rw [J.showT_snoc, ← HACC.out, HA.out.2]
            rw [if_neg (fun h => by have := h.2; omega)]
            rw [if_neg Bool.false_ne_true]
            simp
          have HS9 : Hid (WS w B bb X P _ ((acc ++ [44]) ++ J.V.show ⟨k1, b1, v1, s1, l1, ns1⟩) r g (o + i * 6 + 6) ns gn on w7) := HS7
          go_wp2_with fail
          go_roundw
          case rel =>
            exact ⟨i + 1, by omega, by go_num, t1.snoc ⟨k1, b1, v1, s1, l1, ns1⟩, r, _, HEQ, hid ⟨by rw [← HA.out.1]; unfold J.T.snoc; rw [J.T.app_assoc]; rfl, by rw [J.T.snoc_length, HA.out.2]⟩, by rw [show o + (i + 1) * 6 = o + i * 6 + 6 by omega]; exact HS9⟩
          case measure => simp [intOf]; omega
        · have e0 : decide ((i : Int) > 0) = false := decide_eq_false (by omega)
          have e1 : decide (0 < i) = false := decide_eq_false hi9
          have HPC : Hid (acc.length + (([] : List UInt8).length + ((([] : List UInt8)).length + (J.V.show ⟨k1, b1, v1, s1, l1, ns1⟩).length)) ≤ l0.length + (J.V.show ⟨5, b, n, s, l, ns⟩).length) := by
            have h := J.piece_fits (ob := false) (t1 := t1) (r := r) (x := ⟨k1, b1, v1, s1, l1, ns1⟩) (ns := ns) (l := l) HA.out.1
            rw [HA.out.2] at h
            rw [if_pos (by omega)] at h
            show _ ≤ _
            rw [← HACC.out]
            have e : (J.V.show ⟨5, b, n, s, l, ns⟩) = 91 :: (J.showT false true l ns ++ [93]) := rfl
            rw [e]
            simp only [List.length_append, List.length_cons, List.length_nil, Bool.false_eq_true, if_false] at h ⊢
            omega
          have hal : l0.length ≤ acc.length := by rw [← HACC.out, List.length_append]; omega
          obtain ⟨x0, x1, x2, x3, x4, x5⟩ := x6_of HS5.out.v
          obtain ⟨y0, y1, y2, y3, y4, y5⟩ := x6_of HY5.out
          have cK := HC.out HES.out.1 HES.out.2.1 HES.out.2.2 w5 B bb acc P _ HS5.out.h (J.V.Has.keep (fun _ h => h) (fun j hj => (fun W (hW : Below B w W) => (hW.block j (HP.out j hj)).trans (HK5.out.block j (HP.out j hj)).symm) _ HS5.out.b) HH.out) HP.out (fun W hW => HZ.out W (HS5.out.b.trans hW)) (by have h := HPC.out; have h2 := HL.out; simp only [List.length_nil] at h ⊢; omega)
          go_wp2_with fail
          refine cK.mono ?_
          rintro e w6 ⟨rfl, h1, h2, h3⟩
          have HS6 := hid (HS5.out.wrote HP.out HX.out HOO.out h1 h2 h3)
          have HY6 : Hid (w6.heap[Y]? = some (.cells #[.int .u8 k1, .bool b1, .int .i64 v1, .string s1, .slice al l1.length cl, .slice an ns1.length cn] 25 (0, 0))) := h3 Y _ HY5.out (fun e => HYb.out (Option.some.inj e)) (fun c fz e => by simp at e)
          have HA6 : Hid (B ≤ w6.heap.size) := h1.bw
          clear h1 h2 h3 cK x0 x1 x2 x3 x4 x5 y0 y1 y2 y3 y4 y5
          have HEQ : Hid ((acc ++ J.V.show ⟨k1, b1, v1, s1, l1, ns1⟩) = l0 ++ (91 :: J.showT false true (t1.snoc ⟨k1, b1, v1, s1, l1, ns1⟩) ns)) := by
            show _ = _
            rw [J.showT_snoc, ← HACC.out, HA.out.2]
            rw [if_pos ⟨rfl, by omega⟩]
            rw [if_neg Bool.false_ne_true]
            simp
          have HS9 : Hid (WS w B bb X P _ (acc ++ J.V.show ⟨k1, b1, v1, s1, l1, ns1⟩) r g (o + i * 6 + 6) ns gn on w6) := HS6
          go_wp2_with fail
          go_roundw
          case rel =>
            exact ⟨i + 1, by omega, by go_num, t1.snoc ⟨k1, b1, v1, s1, l1, ns1⟩, r, _, HEQ, hid ⟨by rw [← HA.out.1]; unfold J.T.snoc; rw [J.T.app_assoc]; rfl, by rw [J.T.snoc_length, HA.out.2]⟩, by rw [show o + (i + 1) * 6 = o + i * 6 + 6 by omega]; exact HS9⟩
          case measure => simp [intOf]; omega
    · have d0 : decide ((i : Int) < (len : Int)) = false := decide_eq_false (by omega)
      have d1 : decide (i < len) = false := decide_eq_false (by omega)
      have ht2 : t2 = .nil := T_nil (by have := HA.out.2; have := HLE.out; rw [← HA.out.1, J.T.app_length] at this; omega)
      subst ht2
      have hl : t1 = l := by rw [← HA.out.1, J.T.app_nil]
      have hle : acc.length + 2 ≤ l0.length + (J.V.show ⟨5, b, n, s, l, ns⟩).length + 1 := by
        have e : (J.V.show ⟨5, b, n, s, l, ns⟩) = 91 :: (J.showT false true l ns ++ [93]) := rfl
        rw [e, ← HACC.out, hl]
        simp only [List.length_append, List.length_cons, List.length_nil]
        omega
      have cB := writeByte_any B bb acc 93 wr HI.out.h (by have := HL.out; omega) (Holds.bw HI.out.h)
      have HLL := hid hl
      clear hl hle
      go_wp2_with fail
      refine cB.mono ?_
      rintro e w3 ⟨rfl, h1, h2, h3⟩
      have HF : Hid (Holds B bb (l0 ++ (⟨5, b, n, s, l, ns⟩ : J.V).show) w3 ∧ Below B w w3 ∧ Kept bb w w3) := by
        refine ⟨?_, HI.out.b.trans h2, Lib.OthersKept.trans HI.out.k h3⟩
        have e : (J.V.show ⟨5, b, n, s, l, ns⟩) = 91 :: (J.showT false true l ns ++ [93]) := rfl
        rw [e, ← List.cons_append, ← List.append_assoc, ← HLL.out, HACC.out]
        exact h1
      clear h1 h2 h3 cB
      go_wp2_with fail
      go_end0
      exact ⟨rfl, HF.out⟩
set_option maxRecDepth 100000 in
set_option maxHeartbeats 4000000 in
theorem write_list6 (b : Bool) (n : Int) (s : ByteArray) (l : J.T) (ns : List ByteArray) (hall : l.All WriteC) : WriteC ⟨6, b, n, s, l, ns⟩ := by
  intro hsm hnum hmay w B bb l0 P cs hO hhas hPP hZ hlen
  obtain ⟨hs1, hs2, hs3⟩ := hsm
  obtain ⟨hn1, hn2⟩ := hnum
  obtain ⟨lv, nv, rfl, hl, hn⟩ := hhas
  have hl : l.In w P lv := hl
  have hn : J.SIn w P ns nv := hn
  obtain ⟨la, lc, rfl⟩ := hl.shape
  obtain ⟨na, nc, rfl⟩ := hn.shape
  obtain ⟨hk16, hk6, hvs, hvn, hml⟩ := J.may_parts hmay
  have hbw := Holds.bw hO
  have hbb := Holds.lt hO
  simp only at hn1 hn2 hs1 hs3
  obtain ⟨g, o, hgo⟩ := in_addr hl
  obtain ⟨gn, on, hgn, hna⟩ := hn.addr
  have hZ0 := hZ
  obtain ⟨len, hle⟩ : ∃ len, l.length = len := ⟨_, rfl⟩
  obtain ⟨nn, hnn⟩ : ∃ nn, ns.length = nn := ⟨_, rfl⟩
  have HNL : Hid (nn = len) := by show _ = _; rw [← hle, ← hnn]; exact hk6 rfl
  obtain ⟨w1, hw1⟩ : ∃ w1, w.alloc (.cells #[.int .u8 6, .bool b, .int .i64 n, .string s, .slice la len lc, .slice na nn nc] 25) = w1 := ⟨_, rfl⟩
  have hbl : Below w.heap.size w w1 := by rw [← hw1]; exact (Below.refl _ w).alloc (Nat.le_refl _) _
  have hv1 : w1.heap[w.heap.size]? = some (.cells #[.int .u8 6, .bool b, .int .i64 n, .string s, .slice la len lc, .slice na nn nc] 25 (0, 0)) := by rw [← hw1]; exact heap_alloc_new w _
  obtain ⟨X, hX⟩ : ∃ X, w.heap.size = X := ⟨_, rfl⟩
  have HXE := hid hX
  have HP := hid hPP
  have HX : Hid (X ≠ bb) := by show _ ≠ _; omega
  have HOO : Hid (∀ c fz, ((.cells #[.int .u8 6, .bool b, .int .i64 n, .string s, .slice la len lc, .slice na nn nc] 25 (0, 0)) : Obj) ≠ .cells c 5 fz) := fun c fz e => by simp at e
  have hbw1 : B ≤ w1.heap.size := Nat.le_trans hbw hbl.size
  have HS1 : Hid (WS w B bb X P (.cells #[.int .u8 6, .bool b, .int .i64 n, .string s, .slice la len lc, .slice na nn nc] 25 (0, 0)) l0 l g o ns gn on w1) :=
    ⟨by rw [← hX]; exact hv1, fun hne => J.T.At.keep (fun _ h => h) (fun b hb => hbl.block b (Nat.lt_of_lt_of_le (hPP b hb) hbw)) _ _ _ (hgo hne).2.2,
      fun j x hj => ⟨(hna j x hj).1, by rw [World.cell?_of_block (w := w) (hbl.block gn (Nat.lt_of_lt_of_le (hPP gn (hna j x hj).1) hbw))]; exact (hna j x hj).2⟩, hbl.mono hbw, kept_after hbl, Holds.after hO hbl⟩
  obtain ⟨x0, x1, x2, x3, x4, x5⟩ := x6_of HS1.out.v
  have HGO := hid hgo
  have HGN := hid hgn
  rw [hle] at HGO hs1 ⊢
  rw [hnn] at HGN ⊢
  have HW1 := hid hw1
  have HL := hid hlen
  have HLE := hid hle
  have HNN := hid hnn
  have HZ := hid hZ
  have HALL := hid hall
  have HSM := hid hs3
  have HNU := hid hn2
  have HML := hid hml
  have HVV := hid hvn
  have hl0 : l0.length + 8 ≤ 10000000000000 := by
    have e : (J.V.show ⟨6, b, n, s, l, ns⟩) = 123 :: (J.showT true true l ns ++ [125]) := rfl
    rw [e] at hlen
    simp only [List.length_append, List.length_cons, List.length_nil] at hlen
    omega
  have cB := writeByte_any B bb l0 123 w1 HS1.out.h (by omega) hbw1
  clear hl hn hw1 hv1 hbl hmay hO hml hPP hlen hbw hs2 hs3 hn1 hn2 hvn hvs hk6 hk16 hgo hgn hna hZ hZ0 hle hnn hall hbb hX hbw1
  go_enter Tryz.func34, Tryz.ntmps34
  go_upto_region 1 with fail
  rw [show w.alloc (.cells #[.int .u8 6, .bool b, .int .i64 n, .string s, .slice la len lc, .slice na nn nc] 25) = w1 from HW1.out, HXE.out]
  clear HW1
  go_wp2_with fail
  refine cB.mono ?_
  rintro e w2 ⟨rfl, h1, h2, h3⟩
  have HS2 := hid (HS1.out.wrote HP.out HX.out HOO.out h1 h2 h3)
  clear h1 h2 h3 cB x0 x1 x2 x3 x4 x5 HS1
  obtain ⟨x0, x1, x2, x3, x4, x5⟩ := x6_of HS2.out.v
  obtain ⟨acc0, hacc0⟩ : ∃ a, l0 ++ [123] = a := ⟨_, rfl⟩
  have HACC0 : Hid (acc0 = l0 ++ (123 :: J.showT true true .nil ns)) := by show _ = _; rw [← hacc0]; rfl
  rw [hacc0] at HS2
  clear hacc0
  have HS3 : Hid (WS w B bb X P (.cells #[.int .u8 6, .bool b, .int .i64 n, .string s, .slice la len lc, .slice na nn nc] 25 (0, 0)) acc0 l g (o + 0 * 6) ns gn on w2) := by rw [Nat.zero_mul, Nat.add_zero]; exact HS2
  clear HS2
  go_upto_region 7 with fail
  clear x0 x1 x2 x3 x4 x5
  go_loopw [19] (fun vi wr => ∃ (i : Nat), i ≤ len ∧ vi = .int .i64 i ∧ ∃ (t1 t2 : J.T) (acc : List UInt8), Hid (acc = l0 ++ (123 :: J.showT true true t1 ns)) ∧ Hid (t1.app t2 = l ∧ t1.length = i) ∧ Hid (WS w B bb X P (.cells #[.int .u8 6, .bool b, .int .i64 n, .string s, .slice la len lc, .slice na nn nc] 25 (0, 0)) acc t2 g (o + i * 6) ns gn on wr)) (fun vi _ => len - (intOf vi).toNat)
  case atStart => exact ⟨0, Nat.zero_le _, rfl, .nil, l, acc0, HACC0, hid ⟨rfl, rfl⟩, HS3⟩
  case round =>
    obtain ⟨i, hi, rfl, t1, t2, acc, HAC, HA, HI⟩ := hrel
    have HACC := hid HAC.out.symm
    clear HS3 HACC0 HAC
    by_cases hlt : i < len
    · have d0 : decide ((i : Int) < (len : Int)) = true := decide_eq_true (by omega)
      have d1 : decide (i < len) = true := decide_eq_true (by omega)
      have hlen2 : t1.length + t2.length = len := by rw [← HLE.out, ← HA.out.1, J.T.app_length]
      cases t2 with
      | nil => have := HA.out.2; simp [J.T.length] at hlen2; omega
      | cons k1 b1 v1 s1 l1 ns1 r =>
        obtain ⟨al, cl, an, cn, y0, y1, y2, y3, y4, y5, hh, hrest⟩ := HI.out.head
        obtain ⟨hga, hgc, -⟩ := HGO.out (fun h => by have := HLE.out; rw [h] at this; simp [J.T.length] at this; omega)
        subst hga
        obtain ⟨hgna, hgnc⟩ := HGN.out (by have := HNL.out; omega)
        subst hgna
        have hin : i < nn := by have := HNL.out; omega
        have hin0 : decide (i < nn) = true := decide_eq_true hin
        have hin1 : (i : Int) < (nn : Int) := by omega
        obtain ⟨nm, hnm⟩ : ∃ nm, ns[i]? = some nm := ⟨_, List.getElem?_eq_getElem (by have := HNN.out; omega)⟩
        have HNM := hid hnm
        have HVN : Hid (validD nm.data.toList = true) := HVV.out nm (List.mem_of_getElem? hnm)
        clear hnm
        have HC := hid (show WriteC ⟨k1, b1, v1, s1, l1, ns1⟩ from (J.T.All.app (p := WriteC) t1 (.cons k1 b1 v1 s1 l1 ns1 r) (by rw [HA.out.1]; exact HALL.out)).2.1)
        have HES : Hid (J.V.small ⟨k1, b1, v1, s1, l1, ns1⟩ ∧ J.V.num ⟨k1, b1, v1, s1, l1, ns1⟩ ∧ (⟨k1, b1, v1, s1, l1, ns1⟩ : J.V).may = true) := by
          refine ⟨(J.T.small_app t1 (.cons k1 b1 v1 s1 l1 ns1 r) (by rw [HA.out.1]; exact HSM.out)).2.1, ?_, ?_⟩
          · have := (J.T.num_app t1 (.cons k1 b1 v1 s1 l1 ns1 r) (by rw [HA.out.1]; exact HNU.out)).2
            exact ⟨this.1, this.2.1⟩
          · have h := HML.out
            rw [← HA.out.1, J.mayT_app, J.mayT_cons, Bool.and_eq_true, Bool.and_eq_true] at h
            exact h.2.1
        have HH := hid hh
        have HRE := hid hrest
        have hi0 : (0 : Int) ≤ (i : Int) := by omega
        have hi1 : (i : Int) < (len : Int) := by omega
        obtain ⟨x0, x1, x2, x3, x4, x5⟩ := x6_of HI.out.v
        clear hh hrest hlen2
        go_upto_region 9 with fail
        obtain ⟨w5, hw5⟩ : ∃ w5, wr.alloc (.cells #[.int .u8 k1, .bool b1, .int .i64 v1, .string s1, .slice al l1.length cl, .slice an ns1.length cn] 25) = w5 := ⟨_, rfl⟩
        obtain ⟨Y, hY⟩ : ∃ Y, wr.heap.size = Y := ⟨_, rfl⟩
        have hb5 : Below wr.heap.size wr w5 := by rw [← hw5]; exact (Below.refl _ wr).alloc (Nat.le_refl _) _
        have HY5 : Hid (w5.heap[Y]? = some (.cells #[.int .u8 k1, .bool b1, .int .i64 v1, .string s1, .slice al l1.length cl, .slice an ns1.length cn] 25 (0, 0))) := by show _ = _; rw [← hw5, ← hY]; exact heap_alloc_new wr _
        have HYb : Hid (Y ≠ bb) := by show _ ≠ _; have := Holds.lt HI.out.h; omega
        have HS5 := hid (HRE.out.after HP.out HX.out HOO.out hb5)
        have HA5 : Hid (B ≤ w5.heap.size) := Nat.le_trans (Holds.bw HI.out.h) hb5.size
        have HK5 := hid HI.out.b
        rw [hw5, hY]
        clear hw5 hY hb5 y0 y1 y2 y3 y4 y5 x0 x1 x2 x3 x4 x5
        by_cases hi9 : 0 < i
        · have e0 : decide ((i : Int) > 0) = true := decide_eq_true (by omega)
          have e1 : decide (0 < i) = true := decide_eq_true hi9
          have HPC : Hid (acc.length + ([(44 : UInt8)].length + ((J.quoteL nm.data.toList ++ [58]).length + (J.V.show ⟨k1, b1, v1, s1, l1, ns1⟩).length)) ≤ l0.length + (J.V.show ⟨6, b, n, s, l, ns⟩).length) := by
            have h := J.piece_fits (ob := true) (t1 := t1) (r := r) (x := ⟨k1, b1, v1, s1, l1, ns1⟩) (ns := ns) (l := l) HA.out.1
            rw [HA.out.2, J.headD_drop HNM.out] at h
            rw [if_neg (by omega)] at h
            show _ ≤ _
            rw [← HACC.out]
            have e : (J.V.show ⟨6, b, n, s, l, ns⟩) = 123 :: (J.showT true true l ns ++ [125]) := rfl
            rw [e]
            simp only [List.length_append, List.length_cons, List.length_nil, if_true] at h ⊢
            omega
          have hal : l0.length ≤ acc.length := by rw [← HACC.out, List.length_append]; omega
          obtain ⟨x0, x1, x2, x3, x4, x5⟩ := x6_of HS5.out.v
          obtain ⟨y0, y1, y2, y3, y4, y5⟩ := x6_of HY5.out
          have cK := writeByte_any B bb acc 44 w5 HS5.out.h (by have h := HPC.out; have h2 := HL.out; simp only [List.length_append, List.length_cons, List.length_nil] at h ⊢; omega) HA5.out
          go_wp2_with fail
          refine cK.mono ?_
          rintro e w6 ⟨rfl, h1, h2, h3⟩
          have HS6 := hid (HS5.out.wrote HP.out HX.out HOO.out h1 h2 h3)
          have HY6 : Hid (w6.heap[Y]? = some (.cells #[.int .u8 k1, .bool b1, .int .i64 v1, .string s1, .slice al l1.length cl, .slice an ns1.length cn] 25 (0, 0))) := h3 Y _ HY5.out (fun e => HYb.out (Option.some.inj e)) (fun c fz e => by simp at e)
          have HA6 : Hid (B ≤ w6.heap.size) := h1.bw
          clear h1 h2 h3 cK x0 x1 x2 x3 x4 x5 y0 y1 y2 y3 y4 y5
          obtain ⟨x0, x1, x2, x3, x4, x5⟩ := x6_of HS6.out.v
          obtain ⟨y0, y1, y2, y3, y4, y5⟩ := x6_of HY6.out
          have hnm : w6.cell? ⟨gn, on + i, none⟩ = some (.string nm) := (HS6.out.n i nm HNM.out).2
          have cK := quote_any HS6.out.h HVN.out (fun W hW => (HZ.out W (HS6.out.b.trans hW)).1) (by have h := HPC.out; have h2 := HL.out; have h3 := J.quoteL_ge nm.data.toList; rw [← Lib.size_eq] at h3; simp only [List.length_append, List.length_cons, List.length_nil] at h ⊢; omega)
          go_wp2_with fail
          refine cK.mono ?_
          rintro e w7 ⟨rfl, h1, h2, h3⟩
          have HS7 := hid (HS6.out.wrote HP.out HX.out HOO.out h1 h2 h3)
          have HY7 : Hid (w7.heap[Y]? = some (.cells #[.int .u8 k1, .bool b1, .int .i64 v1, .string s1, .slice al l1.length cl, .slice an ns1.length cn] 25 (0, 0))) := h3 Y _ HY6.out (fun e => HYb.out (Option.some.inj e)) (fun c fz e => by simp at e)
          have HA7 : Hid (B ≤ w7.heap.size) := h1.bw
          clear h1 h2 h3 cK x0 x1 x2 x3 x4 x5 y0 y1 y2 y3 y4 y5
          obtain ⟨x0, x1, x2, x3, x4, x5⟩ := x6_of HS7.out.v
          obtain ⟨y0, y1, y2, y3, y4, y5⟩ := x6_of HY7.out
          have cK := writeByte_any B bb ((acc ++ [44]) ++ J.quoteL nm.data.toList) 58 w7 HS7.out.h (by have h := HPC.out; have h2 := HL.out; simp only [List.length_append, List.length_cons, List.length_nil] at h ⊢; omega) HA7.out
          go_wp2_with fail
          refine cK.mono ?_
          rintro e w8 ⟨rfl, h1, h2, h3⟩
          have HS8 := hid (HS7.out.wrote HP.out HX.out HOO.out h1 h2 h3)
          have HY8 : Hid (w8.heap[Y]? = some (.cells #[.int .u8 k1, .bool b1, .int .i64 v1, .string s1, .slice al l1.length cl, .slice an ns1.length cn] 25 (0, 0))) := h3 Y _ HY7.out (fun e => HYb.out (Option.some.inj e)) (fun c fz e => by simp at e)
          have HA8 : Hid (B ≤ w8.heap.size) := h1.bw
          clear h1 h2 h3 cK x0 x1 x2 x3 x4 x5 y0 y1 y2 y3 y4 y5
          obtain ⟨x0, x1, x2, x3, x4, x5⟩ := x6_of HS8.out.v
          obtain ⟨y0, y1, y2, y3, y4, y5⟩ := x6_of HY8.out
          have cK := HC.out HES.out.1 HES.out.2.1 HES.out.2.2 w8 B bb (((acc ++ [44]) ++ J.quoteL nm.data.toList) ++ [58]) P _ HS8.out.h (J.V.Has.keep (fun _ h => h) (fun j hj => (fun W (hW : Below B w W) => (hW.block j (HP.out j hj)).trans (HK5.out.block j (HP.out j hj)).symm) _ HS8.out.b) HH.out) HP.out (fun W hW => HZ.out W (HS8.out.b.trans hW)) (by have h := HPC.out; have h2 := HL.out; simp only [List.length_append, List.length_cons, List.length_nil] at h ⊢; omega)
          go_wp2_with fail
          refine cK.mono ?_
          rintro e w9 ⟨rfl, h1, h2, h3⟩
          have HS9 := hid (HS8.out.wrote HP.out HX.out HOO.out h1 h2 h3)
          have HY9 : Hid (w9.heap[Y]? = some (.cells #[.int .u8 k1, .bool b1, .int .i64 v1, .string s1, .slice al l1.length cl, .slice an ns1.length cn] 25 (0, 0))) := h3 Y _ HY8.out (fun e => HYb.out (Option.some.inj e)) (fun c fz e => by simp at e)
          have HA9 : Hid (B ≤ w9.heap.size) := h1.bw
          clear h1 h2 h3 cK x0 x1 x2 x3 x4 x5 y0 y1 y2 y3 y4 y5
          have HEQ : Hid (((((acc ++ [44]) ++ J.quoteL nm.data.toList) ++ [58]) ++ J.V.show ⟨k1, b1, v1, s1, l1, ns1⟩) = l0 ++ (123 :: J.showT true true (t1.snoc ⟨k1, b1, v1, s1, l1, ns1⟩) ns)) := by
            show _ = _
            rw [J.showT_snoc, ← HACC.out, HA.out.2]
            rw [if_neg (fun h => by have := h.2; omega)]
            rw [J.headD_drop HNM.out, if_pos rfl]
            simp
          have HS9 : Hid (WS w B bb X P _ ((((acc ++ [44]) ++ J.quoteL nm.data.toList) ++ [58]) ++ J.V.show ⟨k1, b1, v1, s1, l1, ns1⟩) r g (o + i * 6 + 6) ns gn on w9) := HS9
          go_wp2_with fail
          go_roundw
          case rel =>
            exact ⟨i + 1, by omega, by go_num, t1.snoc ⟨k1, b1, v1, s1, l1, ns1⟩, r, _, HEQ, hid ⟨by rw [← HA.out.1]; unfold J.T.snoc; rw [J.T.app_assoc]; rfl, by rw [J.T.snoc_length, HA.out.2]⟩, by rw [show o + (i + 1) * 6 = o + i * 6 + 6 by omega]; exact HS9⟩
          case measure => simp [intOf]; omega
        · have e0 : decide ((i : Int) > 0) = false := decide_eq_false (by omega)
          have e1 : decide (0 < i) = false := decide_eq_false hi9
          have HPC : Hid (acc.length + (([] : List UInt8).length + ((J.quoteL nm.data.toList ++ [58]).length + (J.V.show ⟨k1, b1, v1, s1, l1, ns1⟩).length)) ≤ l0.length + (J.V.show ⟨6, b, n, s, l, ns⟩).length) := by
            have h := J.piece_fits (ob := true) (t1 := t1) (r := r) (x := ⟨k1, b1, v1, s1, l1, ns1⟩) (ns := ns) (l := l) HA.out.1
            rw [HA.out.2, J.headD_drop HNM.out] at h
            rw [if_pos (by omega)] at h
            show _ ≤ _
            rw [← HACC.out]
            have e : (J.V.show ⟨6, b, n, s, l, ns⟩) = 123 :: (J.showT true true l ns ++ [125]) := rfl
            rw [e]
            simp only [List.length_append, List.length_cons, List.length_nil, if_true] at h ⊢
            omega
          have hal : l0.length ≤ acc.length := by rw [← HACC.out, List.length_append]; omega
          obtain ⟨x0, x1, x2, x3, x4, x5⟩ := x6_of HS5.out.v
          obtain ⟨y0, y1, y2, y3, y4, y5⟩ := x6_of HY5.out
          have hnm : w5.cell? ⟨gn, on + i, none⟩ = some (.string nm) := (HS5.out.n i nm HNM.out).2
          have cK := quote_any HS5.out.h HVN.out (fun W hW => (HZ.out W (HS5.out.b.trans hW)).1) (by have h := HPC.out; have h2 := HL.out; have h3 := J.quoteL_ge nm.data.toList; rw [← Lib.size_eq] at h3; simp only [List.length_append, List.length_cons, List.length_nil] at h ⊢; omega)
          go_wp2_with fail
          refine cK.mono ?_
          rintro e w6 ⟨rfl, h1, h2, h3⟩
          have HS6 := hid (HS5.out.wrote HP.out HX.out HOO.out h1 h2 h3)
          have HY6 : Hid (w6.heap[Y]? = some (.cells #[.int .u8 k1, .bool b1, .int .i64 v1, .string s1, .slice al l1.length cl, .slice an ns1.length cn] 25 (0, 0))) := h3 Y _ HY5.out (fun e => HYb.out (Option.some.inj e)) (fun c fz e => by simp at e)
          have HA6 : Hid (B ≤ w6.heap.size) := h1.bw
          clear h1 h2 h3 cK x0 x1 x2 x3 x4 x5 y0 y1 y2 y3 y4 y5
          obtain ⟨x0, x1, x2, x3, x4, x5⟩ := x6_of HS6.out.v
          obtain ⟨y0, y1, y2, y3, y4, y5⟩ := x6_of HY6.out
          have cK := writeByte_any B bb (acc ++ J.quoteL nm.data.toList) 58 w6 HS6.out.h (by have h := HPC.out; have h2 := HL.out; simp only [List.length_append, List.length_cons, List.length_nil] at h ⊢; omega) HA6.out
          go_wp2_with fail
          refine cK.mono ?_
          rintro e w7 ⟨rfl, h1, h2, h3⟩
          have HS7 := hid (HS6.out.wrote HP.out HX.out HOO.out h1 h2 h3)
          have HY7 : Hid (w7.heap[Y]? = some (.cells #[.int .u8 k1, .bool b1, .int .i64 v1, .string s1, .slice al l1.length cl, .slice an ns1.length cn] 25 (0, 0))) := h3 Y _ HY6.out (fun e => HYb.out (Option.some.inj e)) (fun c fz e => by simp at e)
          have HA7 : Hid (B ≤ w7.heap.size) := h1.bw
          clear h1 h2 h3 cK x0 x1 x2 x3 x4 x5 y0 y1 y2 y3 y4 y5
          obtain ⟨x0, x1, x2, x3, x4, x5⟩ := x6_of HS7.out.v
          obtain ⟨y0, y1, y2, y3, y4, y5⟩ := x6_of HY7.out
          have cK := HC.out HES.out.1 HES.out.2.1 HES.out.2.2 w7 B bb ((acc ++ J.quoteL nm.data.toList) ++ [58]) P _ HS7.out.h (J.V.Has.keep (fun _ h => h) (fun j hj => (fun W (hW : Below B w W) => (hW.block j (HP.out j hj)).trans (HK5.out.block j (HP.out j hj)).symm) _ HS7.out.b) HH.out) HP.out (fun W hW => HZ.out W (HS7.out.b.trans hW)) (by have h := HPC.out; have h2 := HL.out; simp only [List.length_append, List.length_cons, List.length_nil] at h ⊢; omega)
          go_wp2_with fail
          refine cK.mono ?_
          rintro e w8 ⟨rfl, h1, h2, h3⟩
          have HS8 := hid (HS7.out.wrote HP.out HX.out HOO.out h1 h2 h3)
          have HY8 : Hid (w8.heap[Y]? = some (.cells #[.int .u8 k1, .bool b1, .int .i64 v1, .string s1, .slice al l1.length cl, .slice an ns1.length cn] 25 (0, 0))) := h3 Y _ HY7.out (fun e => HYb.out (Option.some.inj e)) (fun c fz e => by simp at e)
          have HA8 : Hid (B ≤ w8.heap.size) := h1.bw
          clear h1 h2 h3 cK x0 x1 x2 x3 x4 x5 y0 y1 y2 y3 y4 y5
          have HEQ : Hid ((((acc ++ J.quoteL nm.data.toList) ++ [58]) ++ J.V.show ⟨k1, b1, v1, s1, l1, ns1⟩) = l0 ++ (123 :: J.showT true true (t1.snoc ⟨k1, b1, v1, s1, l1, ns1⟩) ns)) := by
            show _ = _
            rw [J.showT_snoc, ← HACC.out, HA.out.2]
            rw [if_pos ⟨rfl, by omega⟩]
            rw [J.headD_drop HNM.out, if_pos rfl]
            simp
          have HS9 : Hid (WS w B bb X P _ (((acc ++ J.quoteL nm.data.toList) ++ [58]) ++ J.V.show ⟨k1, b1, v1, s1, l1, ns1⟩) r g (o + i * 6 + 6) ns gn on w8) := HS8
          go_wp2_with fail
          go_roundw
          case rel =>
            exact ⟨i + 1, by omega, by go_num, t1.snoc ⟨k1, b1, v1, s1, l1, ns1⟩, r, _, HEQ, hid ⟨by rw [← HA.out.1]; unfold J.T.snoc; rw [J.T.app_assoc]; rfl, by rw [J.T.snoc_length, HA.out.2]⟩, by rw [show o + (i + 1) * 6 = o + i * 6 + 6 by omega]; exact HS9⟩
          case measure => simp [intOf]; omega
    · have d0 : decide ((i : Int) < (len : Int)) = false := decide_eq_false (by omega)
      have d1 : decide (i < len) = false := decide_eq_false (by omega)
      have ht2 : t2 = .nil := T_nil (by have := HA.out.2; have := HLE.out; rw [← HA.out.1, J.T.app_length] at this; omega)
      subst ht2
      have hl : t1 = l := by rw [← HA.out.1, J.T.app_nil]
      have hle : acc.length + 2 ≤ l0.length + (J.V.show ⟨6, b, n, s, l, ns⟩).length + 1 := by
        have e : (J.V.show ⟨6, b, n, s, l, ns⟩) = 123 :: (J.showT true true l ns ++ [125]) := rfl
        rw [e, ← HACC.out, hl]
        simp only [List.length_append, List.length_cons, List.length_nil]
        omega
      have cB := writeByte_any B bb acc 125 wr HI.out.h (by have := HL.out; omega) (Holds.bw HI.out.h)
      have HLL := hid hl
      clear hl hle
      go_wp2_with fail
      refine cB.mono ?_
      rintro e w3 ⟨rfl, h1, h2, h3⟩
      have HF : Hid (Holds B bb (l0 ++ (⟨6, b, n, s, l, ns⟩ : J.V).show) w3 ∧ Below B w w3 ∧ Kept bb w w3) := by
        refine ⟨?_, HI.out.b.trans h2, Lib.OthersKept.trans HI.out.k h3⟩
        have e : (J.V.show ⟨6, b, n, s, l, ns⟩) = 123 :: (J.showT true true l ns ++ [125]) := rfl
        rw [e, ← List.cons_append, ← List.append_assoc, ← HLL.out, HACC.out]
        exact h1
      clear h1 h2 h3 cB
      go_wp2_with fail
      go_end0
      exact ⟨rfl, HF.out⟩
theorem write_any (x : J.V) : WriteC x := J.V.of (fun x hall => by
  obtain ⟨k, b, n, s, l, ns⟩ := x
  by_cases h1 : k = 1
  · subst h1; exact write_flat1 b n s l ns
  by_cases h2 : k = 2
  · subst h2; exact write_flat2 b n s l ns
  by_cases h3 : k = 3
  · subst h3; exact write_flat3 b n s l ns
  by_cases h4 : k = 4
  · subst h4; exact write_flat4 b n s l ns
  by_cases h5 : k = 5
  · subst h5; exact write_list5 b n s l ns hall
  by_cases h6 : k = 6
  · subst h6; exact write_list6 b n s l ns hall
  intro _ _ hm
  have := (J.may_parts hm).1
  omega) x
end Go.Proofs.YtphjfighamadgaaGreatDoor
