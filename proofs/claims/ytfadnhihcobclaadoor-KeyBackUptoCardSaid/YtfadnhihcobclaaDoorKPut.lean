/- The walk of key.put. -/
import Derived.Test.YtfadnhihcobclaaDoorKPlainP
import Derived.Test.YtfadnhihcobclaaDoorKAfter
import Derived.Laws.AppendOwn
namespace Go.Proofs.YtfadnhihcobclaaDoor
open Go.RowKit
open Go.Lib (hid)

set_option maxRecDepth 100000 in
set_option maxHeartbeats 4000000 in
theorem put_any (B : Nat) (l : List UInt8) (b : Value) (u : Nat) (hu : u < 18446744073709551616) (w : World) (hB : B ≤ w.heap.size) (hR : Row B l b w) (hl : l.length ≤ 140000000000000) :
    Calls Tryd.prog 35 #[b, .int .u64 u] w fun e w' => ∃ v, e = .returned v ∧ Row B (l ++ K.beN u 8) v w' ∧ Below B w w' := by
  obtain ⟨i0, hi, hz0, hz1, hz2⟩ := info_parts infoByte
  have HR := hid hR
  clear hR
  go_enter Tryd.func35, Tryd.ntmps35
  go_wp2_with fail
  go_loopw [0, 5] (fun v i wr => ∃ k : Nat, k ≤ 8 ∧ i = .int .i64 (56 - 8 * (k : Int)) ∧ Hid (Row B (l ++ K.beN u k) v wr) ∧ Hid (Below B w wr)) (fun _ i _ => (intOf i + 8).toNat)
  case atStart => exact ⟨0, by omega, by rfl, by show Row _ _ _ _; simpa [K.beN] using HR.out, Below.refl _ _⟩
  case round =>
    obtain ⟨k, hk, rfl, hr, hb⟩ := hrel
    clear HR
    rcases (by omega : k = 0 ∨ k = 1 ∨ k = 2 ∨ k = 3 ∨ k = 4 ∨ k = 5 ∨ k = 6 ∨ k = 7 ∨ k = 8) with rfl | rfl | rfl | rfl | rfl | rfl | rfl | rfl | rfl
    · have hBw := hb.out.size
      have hlen : (l ++ K.beN u 0).length ≤ 140000000000008 := by simp [K.beN]; omega
      have e : l ++ K.beN u 0 ++ [UInt8.ofNat (u / 72057594037927936)] = l ++ K.beN u 1 := by rw [K.beN_succ u 0, List.append_assoc]
      obtain ⟨m, hm⟩ : ∃ m, l ++ K.beN u 0 = m := ⟨_, rfl⟩
      rw [hm] at hr e hlen
      clear hm
      have hr1 := hr.out
      have hx : ((UInt8.ofNat (u / 72057594037927936)).toNat : Int) = (u : Int) / 72057594037927936 := by
        rw [UInt8.toNat_ofNat']; omega
      go_wp2_with (at_builtin; refine wpList_append_own _ rfl _ _ 63 rfl B 5 i0 (.int .u8 0) 1 1 Tryd.underlying63 hi hz0 hz1 hz2 rfl (by decide) _ _ _ rfl (World.ownsRow.alloc hr1 _) ⟨wr.heap.size, 0, none⟩ 1 1 [.int .u8 ((u : Int) / 72057594037927936)] rfl rfl ?c1 ?c2 ?c3 ?c4 ?c5 ?_)
      case c1 =>
        intro j u hj
        match j, hj with
        | 0, hj => simp at hj; subst hj; simp [Addr.add]
      case c2 => intro u hu; simp at hu; subst hu; rfl
      case c3 => unfold maxLen; omega
      case c4 => omega
      case c5 => simp; omega
      intro v' w3 hown' hgrow _
      have hR3 := Row.of_push (c := UInt8.ofNat (u / 72057594037927936)) (by rw [hx]; exact hown')
      rw [e] at hR3
      have HR3 := hid hR3
      have HB3 := hid ((hb.out.alloc (by omega) _).grown hgrow (by simp; omega) (fun k hk => (World.ownsRow.lt hr1 k hk).1))
      clear hR3 hown' hgrow hr1 hx e
      go_wp2_with fail
      go_roundw
      case rel => exact ⟨1, by omega, by go_num, HR3, HB3⟩
      case measure => simp [intOf]
    · have hBw := hb.out.size
      have hlen : (l ++ K.beN u 1).length ≤ 140000000000008 := by simp [K.beN]; omega
      have e : l ++ K.beN u 1 ++ [UInt8.ofNat (u / 281474976710656)] = l ++ K.beN u 2 := by rw [K.beN_succ u 1, List.append_assoc]
      obtain ⟨m, hm⟩ : ∃ m, l ++ K.beN u 1 = m := ⟨_, rfl⟩
      rw [hm] at hr e hlen
      clear hm
      have hr1 := hr.out
      have hx : ((UInt8.ofNat (u / 281474976710656)).toNat : Int) = (u : Int) / 281474976710656 % 256 := by
        rw [UInt8.toNat_ofNat']; omega
      go_wp2_with (at_builtin; refine wpList_append_own _ rfl _ _ 63 rfl B 5 i0 (.int .u8 0) 1 1 Tryd.underlying63 hi hz0 hz1 hz2 rfl (by decide) _ _ _ rfl (World.ownsRow.alloc hr1 _) ⟨wr.heap.size, 0, none⟩ 1 1 [.int .u8 ((u : Int) / 281474976710656 % 256)] rfl rfl ?c1 ?c2 ?c3 ?c4 ?c5 ?_)
      case c1 =>
        intro j u hj
        match j, hj with
        | 0, hj => simp at hj; subst hj; simp [Addr.add]
      case c2 => intro u hu; simp at hu; subst hu; rfl
      case c3 => unfold maxLen; omega
      case c4 => omega
      case c5 => simp; omega
      intro v' w3 hown' hgrow _
      have hR3 := Row.of_push (c := UInt8.ofNat (u / 281474976710656)) (by rw [hx]; exact hown')
      rw [e] at hR3
      have HR3 := hid hR3
      have HB3 := hid ((hb.out.alloc (by omega) _).grown hgrow (by simp; omega) (fun k hk => (World.ownsRow.lt hr1 k hk).1))
      clear hR3 hown' hgrow hr1 hx e
      go_wp2_with fail
      go_roundw
      case rel => exact ⟨2, by omega, by go_num, HR3, HB3⟩
      case measure => simp [intOf]
    · have hBw := hb.out.size
      have hlen : (l ++ K.beN u 2).length ≤ 140000000000008 := by simp [K.beN]; omega
      have e : l ++ K.beN u 2 ++ [UInt8.ofNat (u / 1099511627776)] = l ++ K.beN u 3 := by rw [K.beN_succ u 2, List.append_assoc]
      obtain ⟨m, hm⟩ : ∃ m, l ++ K.beN u 2 = m := ⟨_, rfl⟩
      rw [hm] at hr e hlen
      clear hm
      have hr1 := hr.out
      have hx : ((UInt8.ofNat (u / 1099511627776)).toNat : Int) = (u : Int) / 1099511627776 % 256 := by
        rw [UInt8.toNat_ofNat']; omega
      go_wp2_with (at_builtin; refine wpList_append_own _ rfl _ _ 63 rfl B 5 i0 (.int .u8 0) 1 1 Tryd.underlying63 hi hz0 hz1 hz2 rfl (by decide) _ _ _ rfl (World.ownsRow.alloc hr1 _) ⟨wr.heap.size, 0, none⟩ 1 1 [.int .u8 ((u : Int) / 1099511627776 % 256)] rfl rfl ?c1 ?c2 ?c3 ?c4 ?c5 ?_)
      case c1 =>
        intro j u hj
        match j, hj with
        | 0, hj => simp at hj; subst hj; simp [Addr.add]
      case c2 => intro u hu; simp at hu; subst hu; rfl
      case c3 => unfold maxLen; omega
      case c4 => omega
      case c5 => simp; omega
      intro v' w3 hown' hgrow _
      have hR3 := Row.of_push (c := UInt8.ofNat (u / 1099511627776)) (by rw [hx]; exact hown')
      rw [e] at hR3
      have HR3 := hid hR3
      have HB3 := hid ((hb.out.alloc (by omega) _).grown hgrow (by simp; omega) (fun k hk => (World.ownsRow.lt hr1 k hk).1))
      clear hR3 hown' hgrow hr1 hx e
      go_wp2_with fail
      go_roundw
      case rel => exact ⟨3, by omega, by go_num, HR3, HB3⟩
      case measure => simp [intOf]
    · have hBw := hb.out.size
      have hlen : (l ++ K.beN u 3).length ≤ 140000000000008 := by simp [K.beN]; omega
      have e : l ++ K.beN u 3 ++ [UInt8.ofNat (u / 4294967296)] = l ++ K.beN u 4 := by rw [K.beN_succ u 3, List.append_assoc]
      obtain ⟨m, hm⟩ : ∃ m, l ++ K.beN u 3 = m := ⟨_, rfl⟩
      rw [hm] at hr e hlen
      clear hm
      have hr1 := hr.out
      have hx : ((UInt8.ofNat (u / 4294967296)).toNat : Int) = (u : Int) / 4294967296 % 256 := by
        rw [UInt8.toNat_ofNat']; omega
      go_wp2_with (at_builtin; refine wpList_append_own _ rfl _ _ 63 rfl B 5 i0 (.int .u8 0) 1 1 Tryd.underlying63 hi hz0 hz1 hz2 rfl (by decide) _ _ _ rfl (World.ownsRow.alloc hr1 _) ⟨wr.heap.size, 0, none⟩ 1 1 [.int .u8 ((u : Int) / 4294967296 % 256)] rfl rfl ?c1 ?c2 ?c3 ?c4 ?c5 ?_)
      case c1 =>
        intro j u hj
        match j, hj with
        | 0, hj => simp at hj; subst hj; simp [Addr.add]
      case c2 => intro u hu; simp at hu; subst hu; rfl
      case c3 => unfold maxLen; omega
      case c4 => omega
      case c5 => simp; omega
      intro v' w3 hown' hgrow _
      have hR3 := Row.of_push (c := UInt8.ofNat (u / 4294967296)) (by rw [hx]; exact hown')
      rw [e] at hR3
      have HR3 := hid hR3
      have HB3 := hid ((hb.out.alloc (by omega) _).grown hgrow (by simp; omega) (fun k hk => (World.ownsRow.lt hr1 k hk).1))
      clear hR3 hown' hgrow hr1 hx e
      go_wp2_with fail
      go_roundw
      case rel => exact ⟨4, by omega, by go_num, HR3, HB3⟩
      case measure => simp [intOf]
    · have hBw := hb.out.size
      have hlen : (l ++ K.beN u 4).length ≤ 140000000000008 := by simp [K.beN]; omega
      have e : l ++ K.beN u 4 ++ [UInt8.ofNat (u / 16777216)] = l ++ K.beN u 5 := by rw [K.beN_succ u 4, List.append_assoc]
      obtain ⟨m, hm⟩ : ∃ m, l ++ K.beN u 4 = m := ⟨_, rfl⟩
      rw [hm] at hr e hlen
      clear hm
      have hr1 := hr.out
      have hx : ((UInt8.ofNat (u / 16777216)).toNat : Int) = (u : Int) / 16777216 % 256 := by
        rw [UInt8.toNat_ofNat']; omega
      go_wp2_with (at_builtin; refine wpList_append_own _ rfl _ _ 63 rfl B 5 i0 (.int .u8 0) 1 1 Tryd.underlying63 hi hz0 hz1 hz2 rfl (by decide) _ _ _ rfl (World.ownsRow.alloc hr1 _) ⟨wr.heap.size, 0, none⟩ 1 1 [.int .u8 ((u : Int) / 16777216 % 256)] rfl rfl ?c1 ?c2 ?c3 ?c4 ?c5 ?_)
      case c1 =>
        intro j u hj
        match j, hj with
        | 0, hj => simp at hj; subst hj; simp [Addr.add]
      case c2 => intro u hu; simp at hu; subst hu; rfl
      case c3 => unfold maxLen; omega
      case c4 => omega
      case c5 => simp; omega
      intro v' w3 hown' hgrow _
      have hR3 := Row.of_push (c := UInt8.ofNat (u / 16777216)) (by rw [hx]; exact hown')
      rw [e] at hR3
      have HR3 := hid hR3
      have HB3 := hid ((hb.out.alloc (by omega) _).grown hgrow (by simp; omega) (fun k hk => (World.ownsRow.lt hr1 k hk).1))
      clear hR3 hown' hgrow hr1 hx e
      go_wp2_with fail
      go_roundw
      case rel => exact ⟨5, by omega, by go_num, HR3, HB3⟩
      case measure => simp [intOf]
    · have hBw := hb.out.size
      have hlen : (l ++ K.beN u 5).length ≤ 140000000000008 := by simp [K.beN]; omega
      have e : l ++ K.beN u 5 ++ [UInt8.ofNat (u / 65536)] = l ++ K.beN u 6 := by rw [K.beN_succ u 5, List.append_assoc]
      obtain ⟨m, hm⟩ : ∃ m, l ++ K.beN u 5 = m := ⟨_, rfl⟩
      rw [hm] at hr e hlen
      clear hm
      have hr1 := hr.out
      have hx : ((UInt8.ofNat (u / 65536)).toNat : Int) = (u : Int) / 65536 % 256 := by
        rw [UInt8.toNat_ofNat']; omega
      go_wp2_with (at_builtin; refine wpList_append_own _ rfl _ _ 63 rfl B 5 i0 (.int .u8 0) 1 1 Tryd.underlying63 hi hz0 hz1 hz2 rfl (by decide) _ _ _ rfl (World.ownsRow.alloc hr1 _) ⟨wr.heap.size, 0, none⟩ 1 1 [.int .u8 ((u : Int) / 65536 % 256)] rfl rfl ?c1 ?c2 ?c3 ?c4 ?c5 ?_)
      case c1 =>
        intro j u hj
        match j, hj with
        | 0, hj => simp at hj; subst hj; simp [Addr.add]
      case c2 => intro u hu; simp at hu; subst hu; rfl
      case c3 => unfold maxLen; omega
      case c4 => omega
      case c5 => simp; omega
      intro v' w3 hown' hgrow _
      have hR3 := Row.of_push (c := UInt8.ofNat (u / 65536)) (by rw [hx]; exact hown')
      rw [e] at hR3
      have HR3 := hid hR3
      have HB3 := hid ((hb.out.alloc (by omega) _).grown hgrow (by simp; omega) (fun k hk => (World.ownsRow.lt hr1 k hk).1))
      clear hR3 hown' hgrow hr1 hx e
      go_wp2_with fail
      go_roundw
      case rel => exact ⟨6, by omega, by go_num, HR3, HB3⟩
      case measure => simp [intOf]
    · have hBw := hb.out.size
      have hlen : (l ++ K.beN u 6).length ≤ 140000000000008 := by simp [K.beN]; omega
      have e : l ++ K.beN u 6 ++ [UInt8.ofNat (u / 256)] = l ++ K.beN u 7 := by rw [K.beN_succ u 6, List.append_assoc]
      obtain ⟨m, hm⟩ : ∃ m, l ++ K.beN u 6 = m := ⟨_, rfl⟩
      rw [hm] at hr e hlen
      clear hm
      have hr1 := hr.out
      have hx : ((UInt8.ofNat (u / 256)).toNat : Int) = (u : Int) / 256 % 256 := by
        rw [UInt8.toNat_ofNat']; omega
      go_wp2_with (at_builtin; refine wpList_append_own _ rfl _ _ 63 rfl B 5 i0 (.int .u8 0) 1 1 Tryd.underlying63 hi hz0 hz1 hz2 rfl (by decide) _ _ _ rfl (World.ownsRow.alloc hr1 _) ⟨wr.heap.size, 0, none⟩ 1 1 [.int .u8 ((u : Int) / 256 % 256)] rfl rfl ?c1 ?c2 ?c3 ?c4 ?c5 ?_)
      case c1 =>
        intro j u hj
        match j, hj with
        | 0, hj => simp at hj; subst hj; simp [Addr.add]
      case c2 => intro u hu; simp at hu; subst hu; rfl
      case c3 => unfold maxLen; omega
      case c4 => omega
      case c5 => simp; omega
      intro v' w3 hown' hgrow _
      have hR3 := Row.of_push (c := UInt8.ofNat (u / 256)) (by rw [hx]; exact hown')
      rw [e] at hR3
      have HR3 := hid hR3
      have HB3 := hid ((hb.out.alloc (by omega) _).grown hgrow (by simp; omega) (fun k hk => (World.ownsRow.lt hr1 k hk).1))
      clear hR3 hown' hgrow hr1 hx e
      go_wp2_with fail
      go_roundw
      case rel => exact ⟨7, by omega, by go_num, HR3, HB3⟩
      case measure => simp [intOf]
    · have hBw := hb.out.size
      have hlen : (l ++ K.beN u 7).length ≤ 140000000000008 := by simp [K.beN]; omega
      have e : l ++ K.beN u 7 ++ [UInt8.ofNat (u)] = l ++ K.beN u 8 := by rw [K.beN_succ u 7, List.append_assoc]; simp
      obtain ⟨m, hm⟩ : ∃ m, l ++ K.beN u 7 = m := ⟨_, rfl⟩
      rw [hm] at hr e hlen
      clear hm
      have hr1 := hr.out
      have hx : ((UInt8.ofNat (u)).toNat : Int) = (u : Int) % 256 := by
        rw [UInt8.toNat_ofNat']; omega
      go_wp2_with (at_builtin; refine wpList_append_own _ rfl _ _ 63 rfl B 5 i0 (.int .u8 0) 1 1 Tryd.underlying63 hi hz0 hz1 hz2 rfl (by decide) _ _ _ rfl (World.ownsRow.alloc hr1 _) ⟨wr.heap.size, 0, none⟩ 1 1 [.int .u8 ((u : Int) % 256)] rfl rfl ?c1 ?c2 ?c3 ?c4 ?c5 ?_)
      case c1 =>
        intro j u hj
        match j, hj with
        | 0, hj => simp at hj; subst hj; simp [Addr.add]
      case c2 => intro u hu; simp at hu; subst hu; rfl
      case c3 => unfold maxLen; omega
      case c4 => omega
      case c5 => simp; omega
      intro v' w3 hown' hgrow _
      have hR3 := Row.of_push (c := UInt8.ofNat (u)) (by rw [hx]; exact hown')
      rw [e] at hR3
      have HR3 := hid hR3
      have HB3 := hid ((hb.out.alloc (by omega) _).grown hgrow (by simp; omega) (fun k hk => (World.ownsRow.lt hr1 k hk).1))
      clear hR3 hown' hgrow hr1 hx e
      go_wp2_with fail
      go_roundw
      case rel => exact ⟨8, by omega, by go_num, HR3, HB3⟩
      case measure => simp [intOf]
    · go_wp2_with fail
      go_ret
      exact ⟨_, rfl, hr.out, hb.out⟩
end Go.Proofs.YtfadnhihcobclaaDoor
