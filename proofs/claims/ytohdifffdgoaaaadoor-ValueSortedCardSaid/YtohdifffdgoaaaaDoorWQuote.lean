/- The walk of word.Quote. -/
import Derived.Test.YtohdifffdgoaaaaDoorWBuilder
import Derived.Test.YtohdifffdgoaaaaDoorWChar2P
import Derived.Test.YtohdifffdgoaaaaDoorWPlainQ
import Derived.Deep.RegionWith
import Derived.Deep.CutRange
namespace Go.Proofs.YtohdifffdgoaaaaDoor
open Go.RowKit
open Go.Lib (hid)

theorem Kept.row {b v : Nat} {w w' : World} {cs : Array Value} {T : TypeId} {fr : Nat × Nat} (h : Kept b w w') (hv : w.heap[v]? = some (.cells cs T fr)) (hvb : v ≠ b) (hT : T ≠ 5) : w'.heap[v]? = some (.cells cs T fr) :=
  h v _ hv (fun e => hvb (Option.some.inj e)) (fun c fz e => hT (by cases e; rfl))
namespace W
/-- the bytes of texts, one behind the other -/
def cat : List ByteArray → List UInt8
  | [] => []
  | s :: r => s.data.toList ++ cat r
def sizes : List ByteArray → Nat
  | [] => 0
  | s :: r => s.size + sizes r
theorem cat_append : ∀ (a b : List ByteArray), cat (a ++ b) = cat a ++ cat b
  | [], b => rfl
  | s :: a, b => by simp only [List.cons_append, cat, cat_append a b, List.append_assoc]
theorem cat_length : ∀ (a : List ByteArray), (cat a).length = sizes a
  | [] => rfl
  | s :: a => by simp only [cat, sizes, List.length_append, cat_length a]; rfl
theorem sizes_append : ∀ (a b : List ByteArray), sizes (a ++ b) = sizes a + sizes b
  | [], b => by simp [sizes]
  | s :: a, b => by simp only [List.cons_append, sizes, sizes_append a b]; omega
theorem take_snoc_any (ss : List ByteArray) (k : Nat) (h : k < ss.length) : ss.take (k + 1) = ss.take k ++ [ss[k]] := by
  rw [List.take_succ_eq_append_getElem h]
theorem sizes_take (ss : List ByteArray) (k : Nat) (h : k < ss.length) : sizes (ss.take k) + ss[k].size ≤ sizes ss := by
  have e : ss = ss.take (k + 1) ++ ss.drop (k + 1) := (List.take_append_drop _ _).symm
  have : sizes ss = sizes (ss.take (k + 1)) + sizes (ss.drop (k + 1)) := by
    conv => lhs; rw [e]
    rw [sizes_append]
  rw [take_snoc_any ss k h, sizes_append] at this
  simp only [sizes] at this
  omega
end W

set_option maxRecDepth 100000 in
set_option maxHeartbeats 1000000 in
theorem put_any (B b v : Nat) (l : List UInt8) (ss : List ByteArray) (w : World) (hB : B ≤ w.heap.size) (h : Holds B b l w) (hv : w.heap[v]? = some (.cells (ss.map Value.string).toArray 9 (0, 0))) (hvb : v ≠ b)
    (hlen : l.length + W.sizes ss ≤ 140737488355328) (hs : ss.length ≤ 100) :
    Calls Tryd.prog 96 #[.slice (some ⟨v, 0, none⟩) ss.length ss.length, .pointer (some ⟨b, 0, none⟩)] w fun e w' => e = .returned (.tuple #[]) ∧ Holds B b (l ++ W.cat ss) w' ∧ Below B w w' ∧ Kept b w w' := by
  obtain ⟨n, hn⟩ : ∃ n, ss.length = n := ⟨_, rfl⟩
  have HN := hid hn
  have HH := hid h
  have HL := hid hlen
  rw [hn] at hs ⊢
  clear hn h hlen
  go_enter Tryd.func96, Tryd.ntmps96
  go_wp2_with fail
  go_loopw [7] (fun i wr => ∃ k : Nat, k ≤ n ∧ i = .int .i64 k ∧ Hid (Holds B b (l ++ W.cat (ss.take k)) wr) ∧ Below B w wr ∧ Hid (Kept b w wr)) (fun i _ => n - (intOf i).toNat)
  case atStart => exact ⟨0, by omega, rfl, by show Holds _ _ _ _; simpa [W.cat] using HH.out, Below.refl _ _, Lib.OthersKept.refl _ _ _⟩
  case round =>
    obtain ⟨k, hk, rfl, h, hb, hkp⟩ := hrel
    by_cases hlt : k < n
    · have hkl : k < ss.length := by rw [HN.out]; exact hlt
      have hrow := hkp.out.row hv hvb (by decide)
      have hc : wr.cell? ⟨v, k, none⟩ = some (.string ss[k]) := by
        rw [cell_of_row _ _ _ _ _ _ hrow]; simp [hkl]
      have hsz := W.sizes_take ss k hkl
      have hll := HL.out
      have cW := writeString_any B b (l ++ W.cat (ss.take k)) ss[k] wr h.out (by rw [List.length_append, W.cat_length]; omega) (by have := hb.size; omega)
      have hcat : Hid (l ++ W.cat (ss.take k) ++ ss[k].data.toList = l ++ W.cat (ss.take (k + 1))) := by
        show _ = _
        rw [W.take_snoc_any ss k hkl, W.cat_append]; simp [W.cat]
      obtain ⟨x, hx⟩ : ∃ x, ss[k] = x := ⟨_, rfl⟩
      rw [hx] at hc cW hcat
      clear hsz hll hrow hx
      go_wp2_with fail
      refine cW.mono ?_
      rintro e w2 ⟨rfl, h2, hb2, hk2⟩
      rw [hcat.out] at h2
      have H2 := hid h2
      have HK := hid hk2
      clear h2 hk2
      go_wp2_with fail
      go_roundw
      case rel => exact ⟨k + 1, by omega, by go_num, H2.out, hb.trans hb2, Lib.OthersKept.trans hkp.out HK.out⟩
      case measure => simp [intOf]; omega
    · obtain rfl : k = n := by omega
      have hF : Hid (Holds B b (l ++ W.cat ss) wr) := by
        show Holds _ _ _ _
        have := h.out
        rwa [List.take_of_length_le (by rw [HN.out]; exact Nat.le_refl _)] at this
      clear h
      go_wp2_with fail
      go_end0
      exact ⟨rfl, hF.out, hb, hkp.out⟩

theorem Holds.lt {B b : Nat} {l : List UInt8} {w : World} (h : Holds B b l w) : b < w.heap.size := by
  rcases h with h | h
  · exact h.lt
  · exact h.lt
theorem Holds.alloc {B b : Nat} {l : List UInt8} {w : World} (h : Holds B b l w) (o : Obj) : Holds B b l (w.alloc o) := by
  rcases h with h | h
  · exact Or.inl (h.alloc o)
  · exact Or.inr (h.alloc o)
theorem put_new (B b : Nat) (l : List UInt8) (ss : List ByteArray) (n : Nat) (hn : ss.length = n) (w : World) (hB : B ≤ w.heap.size) (h : Holds B b l w)
    (hlen : l.length + W.sizes ss ≤ 140737488355328) (hs : n ≤ 100) :
    Calls Tryd.prog 96 #[.slice (some ⟨w.heap.size, 0, none⟩) n n, .pointer (some ⟨b, 0, none⟩)] (w.alloc (.cells (ss.map Value.string).toArray 9)) fun e w' => e = .returned (.tuple #[]) ∧ Holds B b (l ++ W.cat ss) w' ∧ Below B w w' := by
  subst hn
  refine (put_any B b w.heap.size l ss _ (by simp; omega) (h.alloc _) (heap_alloc_new w _) (by have := h.lt; omega) hlen hs).mono ?_
  rintro e w' ⟨rfl, h1, h2, _⟩
  exact ⟨rfl, h1, ((Below.refl B w).alloc hB _).trans h2⟩

theorem Holds.drew {B b : Nat} {l : List UInt8} {w : World} (h : Holds B b l w) : Holds B b l w.drew := by
  rcases h with h | h
  · exact Or.inl h.drew
  · exact Or.inr h.drew
theorem put_new_drew (B b : Nat) (l : List UInt8) (ss : List ByteArray) (n : Nat) (hn : ss.length = n) (w : World) (hB : B ≤ w.heap.size) (h : Holds B b l w)
    (hlen : l.length + W.sizes ss ≤ 140737488355328) (hs : n ≤ 100) :
    Calls Tryd.prog 96 #[.slice (some ⟨w.heap.size, 0, none⟩) n n, .pointer (some ⟨b, 0, none⟩)] (w.alloc (.cells (ss.map Value.string).toArray 9)).drew fun e w' => e = .returned (.tuple #[]) ∧ Holds B b (l ++ W.cat ss) w' ∧ Below B w w' := by
  subst hn
  refine (put_any B b w.heap.size l ss _ (by show B ≤ (w.alloc _).heap.size; simp; omega) (h.alloc _).drew (heap_alloc_new w _) (by have := h.lt; omega) hlen hs).mono ?_
  rintro e w' ⟨rfl, h1, h2, _⟩
  exact ⟨rfl, h1, (((Below.refl B w).alloc hB _).drew).trans h2⟩

/-- one digit of base sixteen, cut out of the constant -/
theorem hex_slice (x : Nat) (hx : x < 16) (X : World) : (Instr.slice 9 (.string ⟨#[48, 49, 50, 51, 52, 53, 54, 55, 56, 57, 97, 98, 99, 100, 101, 102]⟩) (some (.int .u8 (x : Int))) (some (.int .u8 ((x : Int) + 1))) none).run Tryd.prog X = .ok (.string ⟨#[W.hexD x]⟩) X := by
  have := run_slice_string (P := Tryd.prog) X 9 ⟨#[48, 49, 50, 51, 52, 53, 54, 55, 56, 57, 97, 98, 99, 100, 101, 102]⟩ .u8 .u8 (x : Int) ((x : Int) + 1) Tryd.underlying9 (by omega) (by omega) (by show (x : Int) + 1 ≤ 16; omega)
  rw [show ((x : Int) + 1).toNat = x + 1 by omega, Int.toNat_natCast] at this
  rw [this]
  have hf : ∀ y : Fin 16, (⟨#[48, 49, 50, 51, 52, 53, 54, 55, 56, 57, 97, 98, 99, 100, 101, 102]⟩ : ByteArray).extract y.val (y.val + 1) = ⟨#[W.hexD y.val]⟩ := by decide +kernel
  rw [hf ⟨x, hx⟩]
theorem hex_div (c : Nat) (h : c < 256) (X : World) : (Instr.slice 9 (.string ⟨#[48, 49, 50, 51, 52, 53, 54, 55, 56, 57, 97, 98, 99, 100, 101, 102]⟩) (some (.int .u8 ((c : Int) / 16))) (some (.int .u8 ((c : Int) / 16 + 1))) none).run Tryd.prog X = .ok (.string ⟨#[W.hexD (c / 16)]⟩) X := by
  have := hex_slice (c / 16) (by omega) X
  rw [Int.natCast_ediv] at this
  exact this
theorem hex_mod (c : Nat) (X : World) : (Instr.slice 9 (.string ⟨#[48, 49, 50, 51, 52, 53, 54, 55, 56, 57, 97, 98, 99, 100, 101, 102]⟩) (some (.int .u8 ((c : Int) % 16))) (some (.int .u8 ((c : Int) % 16 + 1))) none).run Tryd.prog X = .ok (.string ⟨#[W.hexD (c % 16)]⟩) X := by
  have := hex_slice (c % 16) (by omega) X
  rw [Int.natCast_emod] at this
  exact this
theorem u8_and15 (c : Nat) (h : c < 256) : bits .and .u8 (c : Int) 15 = (c : Int) % 16 := by
  have hf : ∀ y : Fin 256, bits .and .u8 ((y.val : Nat) : Int) 15 = ((y.val % 16 : Nat) : Int) := by decide +kernel
  exact hf ⟨c, h⟩
theorem W.encode_one (c : UInt8) (h : c.toNat < 128) : Utf8.encode (c.toNat : Int) = ⟨#[c]⟩ := by
  have hv : W.charOk (c.toNat : Int) = true := by simp [W.charOk]; omega
  rw [encode_charL _ hv, W.charL_1 _ (by omega) (by omega)]
  simp
set_option maxRecDepth 100000 in
set_option maxHeartbeats 4000000 in
theorem quote_any (s : ByteArray) (w : World) (hs : s.size ≤ 17592186044416) :
    Calls Tryd.prog 78 #[.string s] w fun e w' => e = .returned (.string ⟨(W.quoteL s.data.toList).toArray⟩) ∧ Below w.heap.size w w' := by
  have cP := put_new w.heap.size w.heap.size [] [⟨#[34]⟩] 1 rfl _ (by simp) (holds_fresh w) (by show 0 + (1 + 0) ≤ _; omega) (by omega)
  simp only [List.map_cons, List.map_nil, World.size_alloc] at cP
  go_enter Tryd.func78, Tryd.ntmps78
  go_wp2_with fail
  refine cP.mono ?_
  rintro e w1 ⟨rfl, h1, hb1⟩
  have H1 := hid h1
  have b1 : Below w.heap.size w w1 := ((Below.refl _ w).alloc (Nat.le_refl _) _).trans hb1
  clear h1 hb1 cP
  go_wp2_with fail
  go_loopw [13] (fun i wr => ∃ k : Nat, k ≤ s.size ∧ i = .int .i64 k ∧ Hid (Holds w.heap.size w.heap.size (34 :: W.quoteIn (s.data.toList.take k)) wr) ∧ Below w.heap.size w wr) (fun i _ => s.size - (intOf i).toNat)
  case atStart => exact ⟨0, by omega, rfl, by show Holds _ _ _ _; exact H1.out, b1⟩
  case round =>
    obtain ⟨k, hk, rfl, h, hb⟩ := hrel
    have hsz := hb.size
    have hql := W.quoteIn_length (s.data.toList.take k)
    by_cases hlt : k < s.size
    · have hb2 : s[k].toNat < 256 := s[k].toNat_lt
      have hstep : Hid (∀ ss : List ByteArray, W.cat ss = W.byteQ s[k] → 34 :: W.quoteIn (s.data.toList.take k) ++ W.cat ss = 34 :: W.quoteIn (s.data.toList.take (k + 1))) := by
        show ∀ ss : List ByteArray, _
        intro ss e
        rw [W.take_snoc s k hlt, W.quoteIn_append, e]; simp [W.quoteIn]
      have hlen : (34 :: W.quoteIn (s.data.toList.take k)).length + 8 ≤ 140737488355328 := by
        simp only [List.length_cons, List.length_take, Array.length_toList] at hql ⊢
        have : min k s.data.size ≤ k := Nat.min_le_left _ _
        omega
      have HLEN := hid hlen
      clear hql hlen
      by_cases c1 : s[k].toNat = 34 ∨ s[k].toNat = 92
      · have he := W.encode_one s[k] (by omega)
        have cP := put_new w.heap.size w.heap.size (34 :: W.quoteIn (s.data.toList.take k)) [⟨#[92]⟩, ⟨#[s[k]]⟩] 2 rfl wr hsz h.out (by have := HLEN.out; show _ + (1 + (1 + 0)) ≤ _; omega) (by omega)
        rw [hstep.out _ (by unfold W.byteQ; rw [if_pos c1]; rfl)] at cP
        simp only [List.map_cons, List.map_nil] at cP
        clear h hstep
        rcases c1 with c1 | c1
        · have t0 : ((s[k].toNat : Int) == 34) = true := beq_iff_eq.2 (by omega)
          clear c1
          go_wp2_with fail
          refine cP.mono ?_
          rintro e w2 ⟨rfl, h2, hb3⟩
          have H2 := hid h2
          clear h2
          go_wp2_with fail
          go_roundw
          case rel => exact ⟨k + 1, by omega, by go_num, H2, hb.trans hb3⟩
          case measure => simp [intOf]; omega
        · have t0 : ((s[k].toNat : Int) == 34) = false := beq_eq_false_iff_ne.2 (by omega)
          have t1 : ((s[k].toNat : Int) == 92) = true := beq_iff_eq.2 (by omega)
          clear c1
          go_wp2_with fail
          refine cP.mono ?_
          rintro e w2 ⟨rfl, h2, hb3⟩
          have H2 := hid h2
          clear h2
          go_wp2_with fail
          go_roundw
          case rel => exact ⟨k + 1, by omega, by go_num, H2, hb.trans hb3⟩
          case measure => simp [intOf]; omega
      · by_cases c2 : s[k].toNat = 10
        · have t0 : ((s[k].toNat : Int) == 34) = false := beq_eq_false_iff_ne.2 (by omega)
          have t1 : ((s[k].toNat : Int) == 92) = false := beq_eq_false_iff_ne.2 (by omega)
          have t2 : ((s[k].toNat : Int) == 10) = true := beq_iff_eq.2 (by omega)
          have cP := put_new w.heap.size w.heap.size (34 :: W.quoteIn (s.data.toList.take k)) [⟨#[92, 110]⟩] 1 rfl wr hsz h.out (by have := HLEN.out; show _ + (2 + 0) ≤ _; omega) (by omega)
          rw [hstep.out _ (by unfold W.byteQ; rw [if_neg c1, if_pos c2]; rfl)] at cP
          simp only [List.map_cons, List.map_nil] at cP
          clear c1 c2 h hstep
          go_wp2_with fail
          refine cP.mono ?_
          rintro e w2 ⟨rfl, h2, hb3⟩
          have H2 := hid h2
          clear h2
          go_wp2_with fail
          go_roundw
          case rel => exact ⟨k + 1, by omega, by go_num, H2, hb.trans hb3⟩
          case measure => simp [intOf]; omega
        · have t0 : ((s[k].toNat : Int) == 34) = false := beq_eq_false_iff_ne.2 (by omega)
          have t1 : ((s[k].toNat : Int) == 92) = false := beq_eq_false_iff_ne.2 (by omega)
          have t2 : ((s[k].toNat : Int) == 10) = false := beq_eq_false_iff_ne.2 (by omega)
          by_cases c3 : s[k].toNat < 32 ∨ 126 < s[k].toNat
          · have cP := put_new_drew w.heap.size w.heap.size (34 :: W.quoteIn (s.data.toList.take k)) [⟨#[92, 120]⟩, ⟨#[W.hexD (s[k].toNat / 16)]⟩, ⟨#[W.hexD (s[k].toNat % 16)]⟩] 3 rfl wr hsz h.out (by have := HLEN.out; show _ + (2 + (1 + (1 + 0))) ≤ _; omega) (by omega)
            rw [hstep.out _ (by unfold W.byteQ; rw [if_neg c1, if_neg c2, if_pos c3]; rfl)] at cP
            simp only [List.map_cons, List.map_nil] at cP
            clear hstep h c1 c2
            rcases Nat.lt_or_ge s[k].toNat 32 with c4 | c4
            · have t3 : decide ((s[k].toNat : Int) < 32) = true := by simp; omega
              clear c3 c4
              have w1 : IntKind.u8.wrap ((s[k].toNat : Int) / 16 + 1) = (s[k].toNat : Int) / 16 + 1 := IntWalk.u8_in _ (by omega)
              have w2 : IntKind.u8.wrap ((s[k].toNat : Int) % 16 + 1) = (s[k].toNat : Int) % 16 + 1 := IntWalk.u8_in _ (by omega)
              have x1 := hex_div s[k].toNat hb2
              have x2 := hex_mod s[k].toNat
              have x3 := u8_and15 s[k].toNat hb2
              go_upto_region 14 with fail
              go_region_with (go_at_call 96; refine cP.mono ?_; rintro e w2 ⟨rfl, h2, hb3⟩)
              have H2 := hid h2
              clear h2
              go_wp2_with fail
              go_roundw
              case rel => exact ⟨k + 1, by omega, by go_num, H2, hb.trans hb3⟩
              case measure => simp [intOf]; omega
            · have t3 : decide ((s[k].toNat : Int) < 32) = false := by simp; omega
              have t4 : decide ((126 : Int) < (s[k].toNat : Int)) = true := by simp; omega
              clear c3 c4
              have w1 : IntKind.u8.wrap ((s[k].toNat : Int) / 16 + 1) = (s[k].toNat : Int) / 16 + 1 := IntWalk.u8_in _ (by omega)
              have w2 : IntKind.u8.wrap ((s[k].toNat : Int) % 16 + 1) = (s[k].toNat : Int) % 16 + 1 := IntWalk.u8_in _ (by omega)
              have x1 := hex_div s[k].toNat hb2
              have x2 := hex_mod s[k].toNat
              have x3 := u8_and15 s[k].toNat hb2
              go_upto_region 14 with fail
              go_region_with (go_at_call 96; refine cP.mono ?_; rintro e w2 ⟨rfl, h2, hb3⟩)
              have H2 := hid h2
              clear h2
              go_wp2_with fail
              go_roundw
              case rel => exact ⟨k + 1, by omega, by go_num, H2, hb.trans hb3⟩
              case measure => simp [intOf]; omega
          · have t3 : decide ((s[k].toNat : Int) < 32) = false := by simp; omega
            have t4 : decide ((126 : Int) < (s[k].toNat : Int)) = false := by simp; omega
            have he := W.encode_one s[k] (by omega)
            have cP := put_new w.heap.size w.heap.size (34 :: W.quoteIn (s.data.toList.take k)) [⟨#[s[k]]⟩] 1 rfl wr hsz h.out (by have := HLEN.out; show _ + (1 + 0) ≤ _; omega) (by omega)
            rw [hstep.out _ (by unfold W.byteQ; rw [if_neg c1, if_neg c2, if_neg c3]; rfl)] at cP
            simp only [List.map_cons, List.map_nil] at cP
            clear c1 c2 c3 h hstep
            go_wp2_with fail
            refine cP.mono ?_
            rintro e w2 ⟨rfl, h2, hb3⟩
            have H2 := hid h2
            clear h2
            go_wp2_with fail
            go_roundw
            case rel => exact ⟨k + 1, by omega, by go_num, H2, hb.trans hb3⟩
            case measure => simp [intOf]; omega
    · obtain rfl : k = s.size := by omega
      have hl : decide ((s.size : Int) < (s.size : Int)) = false := by simp
      have cP := put_new w.heap.size w.heap.size (34 :: W.quoteIn (s.data.toList.take s.size)) [⟨#[34]⟩] 1 rfl wr hsz h.out (by show _ + (1 + 0) ≤ _; simp only [List.length_cons, List.length_take, Array.length_toList] at hql ⊢; have : min s.size s.data.size ≤ s.size := Nat.min_le_left _ _; omega) (by omega)
      have hF : Hid (34 :: W.quoteIn (s.data.toList.take s.size) ++ W.cat [⟨#[34]⟩] = W.quoteL s.data.toList) := by
        show _ = _
        rw [List.take_of_length_le (by simp)]; rfl
      rw [hF.out] at cP
      simp only [List.map_cons, List.map_nil] at cP
      clear h hql
      go_wp2_with fail
      refine cP.mono ?_
      rintro e w2 ⟨rfl, h2, hb3⟩
      have s2 := hb3.size
      have cS := string_any w.heap.size w.heap.size (W.quoteL s.data.toList) w2 h2 (by omega)
      clear h2
      go_wp2_with fail
      refine cS.mono ?_
      rintro e w3 ⟨rfl, _, hb4, _⟩
      go_wp2_with fail
      go_ret
      exact ⟨rfl, (hb.trans hb3).trans hb4⟩
end Go.Proofs.YtohdifffdgoaaaaDoor
