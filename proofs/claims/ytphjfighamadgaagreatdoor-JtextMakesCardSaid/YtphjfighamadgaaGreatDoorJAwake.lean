/- awake: the guard of layer 28's statements. -/
import Derived.Test.YtphjfighamadgaaGreatDoorJA2
import Derived.Test.YtphjfighamadgaaGreatDoorJA7
import Derived.Test.YtphjfighamadgaaGreatDoorJPrint
import Derived.Test.YtphjfighamadgaaGreatDoorJObj
import Derived.Test.YtphjfighamadgaaGreatDoorJParse
namespace Go.Proofs.YtphjfighamadgaaGreatDoor
open Go.RowKit
open Go.Lib (hid validD)
namespace J
theorem loose_nil {l : T} (h : l.loose .nil) : l = .nil := by
  cases l with
  | nil => rfl
  | cons => exact h.elim
theorem aw_parts {v : V} (h : v.loose awV) : ∃ l1 : T, v = ⟨6, false, 0, ⟨#[]⟩, .cons 5 false 0 ⟨#[]⟩ l1 [] (.cons 4 false 0 ⟨#[120, 195, 169]⟩ .nil [] .nil), [⟨#[97]⟩, ⟨#[98]⟩]⟩ := by
  obtain ⟨k, b, n, s, l, ns⟩ := v
  obtain ⟨h1, h2, h3, h4, h5, h6⟩ := h
  simp only [awV] at h1 h2 h3 h4 h5 h6
  subst h1 h2 h3 h4 h5
  rcases h6 with h6 | ⟨h, _⟩
  case inr => exact absurd h (by decide)
  cases l with
  | nil => exact h6.elim
  | cons k1 b1 n1 s1 l1 ns1 r =>
    obtain ⟨rfl, rfl, rfl, rfl, rfl, _, hr⟩ := h6
    cases r with
    | nil => exact hr.elim
    | cons k2 b2 n2 s2 l2 ns2 r2 =>
      obtain ⟨rfl, rfl, rfl, rfl, rfl, hl, hr⟩ := hr
      rw [loose_nil hr]
      rcases hl with hl | ⟨h, _⟩
      · rw [loose_nil hl]; exact ⟨l1, rfl⟩
      · exact absurd h (by decide)
end J
def EnvJ (w : World) : Prop := Errs w ∧ Tabs w ∧ Tz w ∧ Pw w
theorem EnvJ.under {w W : World} (h : EnvJ w) (hb : Below w.heap.size w W) : EnvJ W := ⟨h.1.keep hb, h.2.1.under hb, h.2.2.1.keep hb, Lib.tabBelow_of_tabIs h.2.2.2 W hb⟩
theorem flat_in {W : World} {P : Nat → Prop} (v : Value) (hv : v = .slice none 0 0) : J.T.In W P .nil v ∧ J.SIn W P [] v := by
  subst hv; exact ⟨Or.inl ⟨rfl, none, 0, rfl, fun _ => rfl⟩, Or.inl ⟨rfl, none, 0, rfl, fun _ => rfl⟩⟩
theorem awL_in {W : World} {P : Nat → Prop} {X : Nat} (hX : P X) (h : W.heap[X]? = some (.cells #[.int .u8 3, .bool false, .int .i64 (-5), .string ⟨#[]⟩, .slice none 0 0, .slice none 0 0, .int .u8 1, .bool false, .int .i64 0, .string ⟨#[]⟩, .slice none 0 0, .slice none 0 0] 25 (0, 0))) : J.awL.In W P (.slice (some ⟨X, 0, none⟩) 2 2) := by
  refine Or.inr ⟨X, 0, 2, rfl, by decide, by decide, ?_⟩
  have hc : ∀ i u, (#[.int .u8 3, .bool false, .int .i64 (-5), .string ⟨#[]⟩, .slice none 0 0, .slice none 0 0, .int .u8 1, .bool false, .int .i64 0, .string ⟨#[]⟩, .slice none 0 0, .slice none 0 0] : Array Value)[i]? = some u → W.cell? ⟨X, i, none⟩ = some u := fun i u hu => by rw [Lib.cell_of_heap h]; exact hu
  exact ⟨hX, hc 0 _ rfl, hc 1 _ rfl, hc 2 _ rfl, hc 3 _ rfl, ⟨_, hc 4 _ rfl, Or.inl ⟨rfl, none, 0, rfl, fun _ => rfl⟩⟩, ⟨_, hc 5 _ rfl, Or.inl ⟨rfl, none, 0, rfl, fun _ => rfl⟩⟩,
    ⟨hX, hc 6 _ rfl, hc 7 _ rfl, hc 8 _ rfl, hc 9 _ rfl, ⟨_, hc 10 _ rfl, Or.inl ⟨rfl, none, 0, rfl, fun _ => rfl⟩⟩, ⟨_, hc 11 _ rfl, Or.inl ⟨rfl, none, 0, rfl, fun _ => rfl⟩⟩, trivial⟩⟩
theorem awP_in {W : World} {P : Nat → Prop} {X : Nat} (hX : P X) {lv nv : Value} (hl : J.awL.In W P lv) (hn : J.SIn W P [] nv) (h : W.heap[X]? = some (.cells #[.string ⟨#[97]⟩, .int .u8 5, .bool false, .int .i64 0, .string ⟨#[]⟩, lv, nv] 42 (0, 0))) : J.PIn W P (.cons 5 false 0 ⟨#[]⟩ J.awL [] .nil) [⟨#[97]⟩] (.slice (some ⟨X, 0, none⟩) 1 1) := by
  have hc : ∀ i u, (#[.string ⟨#[97]⟩, .int .u8 5, .bool false, .int .i64 0, .string ⟨#[]⟩, lv, nv] : Array Value)[i]? = some u → W.cell? ⟨X, i, none⟩ = some u := fun i u hu => by rw [Lib.cell_of_heap h]; exact hu
  exact ⟨_, _, rfl, rfl, fun _ => ⟨X, 0, rfl, by decide, hX, hc 0 _ rfl, hc 1 _ rfl, hc 2 _ rfl, hc 3 _ rfl, hc 4 _ rfl, ⟨_, hc 5 _ rfl, hl⟩, ⟨_, hc 6 _ rfl, hn⟩, trivial⟩⟩
namespace J
theorem awL_small : awL.small := ⟨⟨by decide, by decide, trivial⟩, ⟨by decide, by decide, trivial⟩, trivial⟩
theorem awP_small : awP.small := ⟨by decide, by decide, ⟨by decide, by decide, awL_small⟩, trivial⟩
theorem awP_brief : awP.brief := by simp [awP, awL, V.brief, T.brief]; decide
theorem awP_num : awP.num := by simp [awP, awL, V.num, T.num]
end J
theorem Has_lt {W : World} {x : J.V} {cs : List Value} {B : Nat} (h : x.Has W (Own W B none) cs) : x.Has W (fun b => b < W.heap.size) cs := J.V.Has.keep (fun _ hb => hb.2.1) (fun _ _ => rfl) h
set_option maxRecDepth 100000 in
set_option maxHeartbeats 2000000 in
theorem awake_any (w : World) (hE : EnvJ w) : Calls Tryz.prog 9 #[] w fun e w' => e = .returned (.bool true) ∧ Below w.heap.size w w' := by
  have HE := hid hE
  clear hE
  go_enter Tryz.func9, Tryz.ntmps9
  go_wp2_with fail
  refine (int_any (-5) w).mono ?_
  rintro e w1 ⟨rfl, hb⟩
  have HB1 := hid hb
  clear hb
  go_wp2_with fail
  refine (null_any w1).mono ?_
  rintro e w2 ⟨rfl, hb⟩
  have HB2 := hid (HB1.out.trans (hb.mono HB1.out.size))
  clear hb
  go_wp2_with fail
  obtain ⟨w3, hw3⟩ : ∃ w3, w2.alloc (.cells #[.int .u8 3, .bool false, .int .i64 (-5), .string ⟨#[]⟩, .slice none 0 0, .slice none 0 0, .int .u8 1, .bool false, .int .i64 0, .string ⟨#[]⟩, .slice none 0 0, .slice none 0 0] 25) = w3 := ⟨_, rfl⟩
  have hb3 : Below w2.heap.size w2 w3 := by rw [← hw3]; exact (Below.refl _ w2).alloc (Nat.le_refl _) _
  have hv3 : w3.heap[w2.heap.size]? = some (.cells #[.int .u8 3, .bool false, .int .i64 (-5), .string ⟨#[]⟩, .slice none 0 0, .slice none 0 0, .int .u8 1, .bool false, .int .i64 0, .string ⟨#[]⟩, .slice none 0 0, .slice none 0 0] 25 (0, 0)) := by rw [← hw3]; exact heap_alloc_new w2 _
  have HB3 := hid (HB2.out.trans (hb3.mono HB2.out.size))
  have cL := list_any (l := J.awL) (by decide) J.awL_small (w := w3) (P := fun b => b < w3.heap.size) (awL_in (Go.lt_of_block hv3) hv3) (fun _ h => h)
  rw [hw3]
  clear hw3 hb3 hv3
  refine cL.mono ?_
  rintro e w4 ⟨cs, rfl, hh, hb⟩
  have HB4 := hid (HB3.out.trans (hb.mono HB3.out.size))
  have hh := Has_lt hh
  obtain ⟨lv, nv, rfl, hl, hn⟩ := hh
  have HL : Hid (J.awL.In w4 (fun b => b < w4.heap.size) lv) := hl
  have HN : Hid (J.SIn w4 (fun b => b < w4.heap.size) [] nv) := hn
  clear hb cL hl hn
  obtain ⟨la, lc, rfl⟩ := J.T.In.shape HL.out
  obtain ⟨na, nc, rfl⟩ := J.SIn.shape HN.out
  go_wp2_with fail
  obtain ⟨w5, hw5⟩ : ∃ w5, w4.alloc (.cells #[.string ⟨#[97]⟩, .int .u8 5, .bool false, .int .i64 0, .string ⟨#[]⟩, .slice la J.awL.length lc, .slice na 0 nc] 42) = w5 := ⟨_, rfl⟩
  have hb5 : Below w4.heap.size w4 w5 := by rw [← hw5]; exact (Below.refl _ w4).alloc (Nat.le_refl _) _
  have hv5 : w5.heap[w4.heap.size]? = some (.cells #[.string ⟨#[97]⟩, .int .u8 5, .bool false, .int .i64 0, .string ⟨#[]⟩, .slice la J.awL.length lc, .slice na 0 nc] 42 (0, 0)) := by rw [← hw5]; exact heap_alloc_new w4 _
  have HB5 := hid (HB4.out.trans (hb5.mono HB4.out.size))
  have cO := obj_any (t := .cons 5 false 0 ⟨#[]⟩ J.awL [] .nil) (names := [⟨#[97]⟩]) (by decide) J.awP_small.2.2 (w := w5) (P := fun b => b < w5.heap.size) (awP_in (Go.lt_of_block hv5) (J.T.In.keep (fun b h => Nat.lt_of_lt_of_le h hb5.size) (fun b h => hb5.block b h) HL.out) (J.SIn.keep (fun b h => Nat.lt_of_lt_of_le h hb5.size) (fun b h => hb5.block b h) HN.out) hv5) (fun _ h => h)
  rw [hw5]
  clear hw5 hb5 hv5 HL HN
  refine cO.mono ?_
  rintro e w6 ⟨cs, rfl, hh, hb⟩
  have HB6 := hid (HB5.out.trans (hb.mono HB5.out.size))
  have hh := Has_lt hh
  obtain ⟨k2, b2, n2, s2, a1, l2, c1, a2, m2, c2, rfl⟩ := Shape.of hh
  have cP := print_any J.awP J.awP_small J.awP_brief (by decide) J.awP_num (by rw [J.show_aw]; decide) w6 _ _ (HE.out.under HB6.out).2.1 (HE.out.under HB6.out).2.2.1 (HE.out.under HB6.out).2.2.2 hh (fun _ h => h)
  clear hb cO hh
  go_wp2_with fail
  refine cP.mono ?_
  rintro e w7 ⟨rfl, hb⟩
  rw [J.print_aw]
  have HB7 := hid (HB6.out.trans (hb.mono HB6.out.size))
  clear hb cP
  have cA := parse_any ⟨#[32, 123, 32, 34, 97, 34, 32, 58, 32, 91, 32, 49, 32, 44, 32, 116, 114, 117, 101, 32, 93, 32, 44, 32, 34, 98, 34, 32, 58, 32, 34, 120, 92, 117, 48, 48, 101, 57, 34, 32, 125, 32]⟩ w7 (HE.out.under HB7.out).1 (HE.out.under HB7.out).2.1
  go_wp2_with fail
  refine cA.mono ?_
  rintro e w8 ⟨v, cs, hlo, rfl, hh, hb⟩
  rw [J.text_aw] at hlo ⊢
  obtain ⟨l1, rfl⟩ := J.aw_parts hlo
  have HB8 := hid (HB7.out.trans (hb.mono HB7.out.size))
  have hh := Has_lt hh
  obtain ⟨lv, nv, rfl, hl, hn⟩ := hh
  have HL : Hid (J.T.In w8 (fun b => b < w8.heap.size) (.cons 5 false 0 ⟨#[]⟩ l1 [] (.cons 4 false 0 ⟨#[120, 195, 169]⟩ .nil [] .nil)) lv) := hl
  have HN : Hid (J.SIn w8 (fun b => b < w8.heap.size) [⟨#[97]⟩, ⟨#[98]⟩] nv) := hn
  clear hb cA hl hn hlo
  obtain ⟨la, lc, rfl⟩ := J.T.In.shape HL.out
  obtain ⟨na, nc, rfl⟩ := J.SIn.shape HN.out
  go_upto_region 3 with fail
  have e5 : (J.T.cons 5 false 0 (⟨#[]⟩ : ByteArray) l1 [] (.cons 4 false 0 ⟨#[120, 195, 169]⟩ .nil [] .nil)).length = 2 := rfl
  obtain ⟨w9, hw9⟩ : ∃ w9, w8.alloc (.cells #[.int .u8 6, .bool false, .int .i64 0, .string ⟨#[]⟩, .slice la 2 lc, .slice na 2 nc] 25) = w9 := ⟨_, rfl⟩
  have hb9 : Below w8.heap.size w8 w9 := by rw [← hw9]; exact (Below.refl _ w8).alloc (Nat.le_refl _) _
  have hv9 : w9.heap[w8.heap.size]? = some (.cells #[.int .u8 6, .bool false, .int .i64 0, .string ⟨#[]⟩, .slice la 2 lc, .slice na 2 nc] 25 (0, 0)) := by rw [← hw9]; exact heap_alloc_new w8 _
  have HB9 := hid (HB8.out.trans (hb9.mono HB8.out.size))
  have cF := field_hit ⟨6, false, 0, ⟨#[]⟩, .cons 5 false 0 ⟨#[]⟩ l1 [] (.cons 4 false 0 ⟨#[120, 195, 169]⟩ .nil [] .nil), [⟨#[97]⟩, ⟨#[98]⟩]⟩ ⟨4, false, 0, ⟨#[120, 195, 169]⟩, .nil, []⟩ (.cons 5 false 0 ⟨#[]⟩ l1 [] .nil) .nil ⟨#[98]⟩ rfl rfl (by rfl) (by show 2 ≤ _; decide) (by show 2 ≤ _; decide) ⟨by decide, by decide, trivial⟩ w9 (fun b => b < w9.heap.size) [.int .u8 6, .bool false, .int .i64 0, .string ⟨#[]⟩, .slice la 2 lc, .slice na 2 nc] ⟨_, _, rfl, J.T.In.keep (fun b h => Nat.lt_of_lt_of_le h hb9.size) (fun b h => hb9.block b h) HL.out, J.SIn.keep (fun b h => Nat.lt_of_lt_of_le h hb9.size) (fun b h => hb9.block b h) HN.out⟩ (fun _ h => h)
  have HV9 := hid hv9
  simp only [e5]
  rw [show w8.alloc (.cells #[.int .u8 6, .bool false, .int .i64 0, .string ⟨#[]⟩, .slice la 2 lc, .slice na 2 nc] 25) = w9 from hw9]
  clear hw9 hb9 e5
  obtain ⟨X, hX⟩ : ∃ X, w8.heap.size = X := ⟨_, rfl⟩
  rw [hX] at HV9 hv9 ⊢
  obtain ⟨x0, x1, x2, x3, x4, x5⟩ := x6_of hv9
  clear hX hv9 HL HN
  go_wp2_with fail
  refine cF.mono ?_
  rintro e w10 ⟨cs, rfl, hh, hb⟩
  have HB10 := hid (HB9.out.trans (hb.mono HB9.out.size))
  have HV10 := hid ((hb.block X (Go.lt_of_block HV9.out)).trans HV9.out)
  obtain ⟨lv, nv, rfl, hl, hn⟩ := hh
  simp only at hl hn
  obtain ⟨ya, yc, rfl⟩ := J.T.In.shape hl
  obtain ⟨za, zc, rfl⟩ := J.SIn.shape hn
  clear hb cF x0 x1 x2 x3 x4 x5 hl hn HV9
  go_upto_region 4 with fail
  have e5 : J.T.nil.length = 0 := rfl
  simp only [e5]
  obtain ⟨w11, hw11⟩ : ∃ w11, w10.alloc (.cells #[.int .u8 4, .bool false, .int .i64 0, .string ⟨#[120, 195, 169]⟩, .slice ya 0 yc, .slice za 0 zc] 25) = w11 := ⟨_, rfl⟩
  have hb11 : Below w10.heap.size w10 w11 := by rw [← hw11]; exact (Below.refl _ w10).alloc (Nat.le_refl _) _
  have hy11 : w11.heap[w10.heap.size]? = some (.cells #[.int .u8 4, .bool false, .int .i64 0, .string ⟨#[120, 195, 169]⟩, .slice ya 0 yc, .slice za 0 zc] 25 (0, 0)) := by rw [← hw11]; exact heap_alloc_new w10 _
  have hv11 := (hb11.block X (Go.lt_of_block HV10.out)).trans HV10.out
  have HB11 := hid (HB10.out.trans (hb11.mono HB10.out.size))
  rw [hw11]
  clear hw11 hb11 e5
  obtain ⟨Y, hY⟩ : ∃ Y, w10.heap.size = Y := ⟨_, rfl⟩
  rw [hY] at hy11 ⊢
  obtain ⟨x0, x1, x2, x3, x4, x5⟩ := x6_of hv11
  obtain ⟨y0, y1, y2, y3, y4, y5⟩ := x6_of hy11
  clear hY hy11 hv11 HV10
  go_wp2_with fail
  go_ret
  exact ⟨rfl, HB11.out⟩
end Go.Proofs.YtphjfighamadgaaGreatDoor
