/- The walk of a buffer's count. -/
import Derived.Test.YtfadnhihcobclaaDoorKItems
import Derived.WalkKit
import Derived.WalkSmall
import Derived.BigCall
import Derived.BigGuard
import Derived.LoopTactic
import Derived.Lib.Hide
import Derived.Laws.BytesString
import Derived.Below
import Derived.Deep.QuietTactic
import Derived.BigQuiet
import Derived.Deep.RegionWith
import Derived.Outline
import Derived.Laws.AppendOwn
import Derived.Laws.BitsAllLaws
namespace Go.Proofs.YtfadnhihcobclaaDoor
open Go.RowKit
open Go.Lib (hid)

theorem or128 (m : Nat) : bits .or .u8 ((m % 256 : Nat) : Int) 128 = (((UInt8.ofNat (m % 128 + 128)).toNat : Nat) : Int) := by
  have h := u8_or_nat (m % 256) 128 (by omega) (by omega)
  have e : ∀ x : Fin 256, x.val ||| 128 = x.val % 128 + 128 := by decide +kernel
  have e2 := e ⟨m % 256, by omega⟩
  simp only at e2
  rw [e2] at h
  rw [show (((128 : Nat)) : Int) = 128 from rfl] at h
  rw [h, UInt8.toNat_ofNat']
  omega

set_option maxRecDepth 100000 in
set_option maxHeartbeats 4000000 in
theorem count_any (B q : Nat) (l : List UInt8) (n : Nat) (hn : n < 18446744073709551616) (w : World) (hb : Buf B q l w) (hl : l.length ≤ 140000000000000) :
    Calls Tryd.prog 51 #[.pointer (some ⟨q, 0, none⟩), .int .u64 n] w fun e w' => e = .returned (.tuple #[]) ∧ Buf B q (l ++ K.cnt n) w' ∧ Below B w w' ∧ Keeps q w w' := by
  obtain ⟨i0, hi, hz0, hz1, hz2⟩ := info_parts infoByte
  have HB := hid hb
  clear hb
  go_enter Tryd.func51, Tryd.ntmps51
  go_wp2_with fail
  go_loopw [1] (fun v wr => ∃ (f m : Nat) (g : List UInt8), 1 ≤ f ∧ f ≤ 10 ∧ m < 2 * 128 ^ (f - 1) ∧ v = .int .u64 m ∧ Hid (K.cnt n = g ++ K.cntF f m ∧ g.length ≤ 10 - f) ∧ Hid (Buf B q (l ++ g) wr) ∧ Hid (Below B w wr) ∧ Hid (Keeps q w wr)) (fun v _ => (intOf v).toNat)
  case atStart => exact ⟨10, n, [], by omega, by omega, by omega, rfl, ⟨rfl, by simp⟩, by show Buf _ _ _ _; simpa using HB.out, Below.refl _ _, Lib.OthersKept.refl _ _ _⟩
  case round =>
    obtain ⟨f, m, g, hf1, hf2, hm, rfl, hC, hb, hbl, hk⟩ := hrel
    clear HB
    have hm64 : m < 18446744073709551616 := by
      have : 128 ^ (f - 1) ≤ 128 ^ 9 := Nat.pow_le_pow_right (by omega) (by omega)
      omega
    obtain ⟨vb, hqB, hq, hrow⟩ := hb.out
    obtain ⟨hC1, hC2⟩ := hC.out
    have hlt := lt_of_block hq
    have c0 := cell_of_one hq
    have f0 := free_of_one hq
    have hlen : (l ++ g).length ≤ 140000000000010 := by rw [List.length_append]; omega
    obtain ⟨L, hL⟩ : ∃ L, l ++ g = L := ⟨_, rfl⟩
    rw [hL] at hrow hlen
    by_cases h128 : 128 ≤ m
    · have t0 : decide ((128 : Int) ≤ (m : Int)) = true := by simp; omega
      have hx := or128 m
      rw [show ((m % 256 : Nat) : Int) = (m : Int) % 256 by omega] at hx
      obtain ⟨ch, hch⟩ : ∃ ch, UInt8.ofNat (m % 128 + 128) = ch := ⟨_, rfl⟩
      rw [hch] at hx
      have hf : 2 ≤ f := by
        rcases (by omega : f = 1 ∨ 2 ≤ f) with rfl | h
        · simp at hm; omega
        · exact h
      obtain ⟨f', rfl⟩ : ∃ f', f = f' + 2 := ⟨f - 2, by omega⟩
      have HN : Hid (K.cnt n = (g ++ [ch]) ++ K.cntF (f' + 1) (m / 128) ∧ (g ++ [ch]).length ≤ 10 - (f' + 1)) := by
        refine ⟨?_, by simp; omega⟩
        rw [hC1]
        conv => lhs; unfold K.cntF
        rw [if_neg (by omega), hch]; simp
      have hm' : m / 128 < 2 * 128 ^ f' := by
        have e : 128 ^ (f' + 2 - 1) = 128 * 128 ^ f' := by rw [show f' + 2 - 1 = f' + 1 by omega, Nat.pow_succ, Nat.mul_comm]
        rw [e] at hm
        omega
      clear hC hb hC1 hm hch
      go_wp2_with (at_builtin; refine wpList_append_own _ rfl _ _ 63 rfl B 5 i0 (.int .u8 0) 1 1 Tryd.underlying63 hi hz0 hz1 hz2 rfl (by decide) _ _ _ rfl (World.ownsRow.alloc hrow _) ⟨wr.heap.size, 0, none⟩ 1 1 [.int .u8 (ch.toNat : Int)] rfl rfl ?c1 ?c2 ?c3 ?c4 ?c5 ?_)
      case c1 =>
        intro j u hj
        match j, hj with
        | 0, hj => simp at hj; subst hj; simp [Addr.add]
      case c2 => intro u hu; simp at hu; subst hu; rfl
      case c3 => unfold maxLen; omega
      case c4 => omega
      case c5 => simp; omega
      intro v' w3 hown' hgrow _
      have hR3 : Row B (L ++ [ch]) v' w3 := Row.of_push (c := ch) hown'
      have hq0 : (wr.alloc (.cells #[.int .u8 (ch.toNat : Int)] 5)).heap[q]? = some (.cells #[vb] 76 (0, 0)) := by rw [Lib.alloc_old _ _ _ hlt]; exact hq
      have hBP := hid (Buf.put hqB hq0 (World.ownsRow.alloc hrow _) hgrow hR3)
      have hB3 := hid (((hbl.out.alloc (by omega) _).grown hgrow (by simp; omega) (fun k hk => (World.ownsRow.lt hrow k hk).1)).setCell (p := ⟨q, 0, none⟩) hqB v')
      have hK3 : Hid (Keeps q w (w3.setCell ⟨q, 0, none⟩ v')) := ((Lib.OthersKept.alloc hk.out _).grown hgrow (Row.lies (World.ownsRow.alloc hrow _))).setCell ⟨q, 0, none⟩ rfl _
      have hq3 : w3.heap[q]? = some (.cells #[vb] 76 (0, 0)) := by
        rw [hgrow.block q (by simp; omega) (fun e => (Row.kind hrow hq (by decide)) e.symm)]; exact hq0
      have d0 := cell_of_one hq3
      have e0 := free_of_one hq3
      obtain ⟨a3, n3, c3, rfl⟩ := hR3.shape
      clear hown' hgrow hR3 hq0 hq3 hrow hq hx c0 f0
      go_wp2_with fail
      go_roundw
      case rel => exact ⟨f' + 1, m / 128, g ++ [ch], by omega, by omega, hm', by go_num, HN, by rw [← List.append_assoc, hL]; exact hBP, hB3, hK3⟩
      case measure => simp [intOf]; omega
    · have t0 : decide ((128 : Int) ≤ (m : Int)) = false := by simp; omega
      have hx : Hid ((m : Int) = ((UInt8.ofNat m).toNat : Int)) := by show _ = _; rw [UInt8.toNat_ofNat']; omega
      have HF : Hid (l ++ K.cnt n = L ++ [UInt8.ofNat m]) := by
        show _ = _
        obtain ⟨f', rfl⟩ : ∃ f', f = f' + 1 := ⟨f - 1, by omega⟩
        rw [hC1, ← hL]
        conv => lhs; unfold K.cntF
        rw [if_pos (by omega)]; simp
      clear hC hb hC1 hm
      go_wp2_with (at_builtin; refine wpList_append_own _ rfl _ _ 63 rfl B 5 i0 (.int .u8 0) 1 1 Tryd.underlying63 hi hz0 hz1 hz2 rfl (by decide) _ _ _ rfl (World.ownsRow.alloc hrow _) ⟨wr.heap.size, 0, none⟩ 1 1 [.int .u8 (m : Int)] rfl rfl ?c1 ?c2 ?c3 ?c4 ?c5 ?_)
      case c1 =>
        intro j u hj
        match j, hj with
        | 0, hj => simp at hj; subst hj; simp [Addr.add]
      case c2 => intro u hu; simp at hu; subst hu; rfl
      case c3 => unfold maxLen; omega
      case c4 => omega
      case c5 => simp; omega
      intro v' w3 hown' hgrow _
      have hR3 : Row B (L ++ [UInt8.ofNat m]) v' w3 := Row.of_push (c := UInt8.ofNat m) (by rw [← hx.out]; exact hown')
      have hq0 : (wr.alloc (.cells #[.int .u8 (m : Int)] 5)).heap[q]? = some (.cells #[vb] 76 (0, 0)) := by rw [Lib.alloc_old _ _ _ hlt]; exact hq
      have hBP := hid (Buf.put hqB hq0 (World.ownsRow.alloc hrow _) hgrow hR3)
      have hB3 := hid (((hbl.out.alloc (by omega) _).grown hgrow (by simp; omega) (fun k hk => (World.ownsRow.lt hrow k hk).1)).setCell (p := ⟨q, 0, none⟩) hqB v')
      have hK3 : Hid (Keeps q w (w3.setCell ⟨q, 0, none⟩ v')) := ((Lib.OthersKept.alloc hk.out _).grown hgrow (Row.lies (World.ownsRow.alloc hrow _))).setCell ⟨q, 0, none⟩ rfl _
      have hq3 : w3.heap[q]? = some (.cells #[vb] 76 (0, 0)) := by
        rw [hgrow.block q (by simp; omega) (fun e => (Row.kind hrow hq (by decide)) e.symm)]; exact hq0
      have d0 := cell_of_one hq3
      have e0 := free_of_one hq3
      obtain ⟨a3, n3, c3, rfl⟩ := hR3.shape
      clear hown' hgrow hR3 hq0 hq3 hrow hq hx c0 f0
      go_wp2_with fail
      go_end0
      exact ⟨rfl, by rw [HF.out]; exact hBP.out, hB3.out, hK3.out⟩
end Go.Proofs.YtfadnhihcobclaaDoor
