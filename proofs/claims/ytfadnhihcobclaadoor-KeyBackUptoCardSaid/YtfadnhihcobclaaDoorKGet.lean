/- The walk of key.get at eight bytes. -/
import Derived.Test.YtfadnhihcobclaaDoorKText
import Derived.Laws.Bits64b
import Derived.Lib.ConvBytes
namespace Go.Proofs.YtfadnhihcobclaaDoor
open Go.RowKit
open Go.Lib (hid)
open K
theorem or_low (a c : Nat) (hc : c < 256) : a * 256 ||| c = a * 256 + c := by
  have := Nat.two_pow_add_eq_or_of_lt (i := 8) (b := c) (by omega) a
  rw [show (2 : Nat) ^ 8 = 256 from rfl] at this
  rw [Nat.mul_comm a 256]; exact this.symm
set_option maxRecDepth 100000 in
theorem bits_or_low (a c : Nat) (ha : a * 256 + c < 18446744073709551616) (hc : c < 256) : bits .or .u64 ((a : Int) * 256) (c : Int) = ((a * 256 + c : Nat) : Int) := by
  have h1 : a * 256 < 18446744073709551616 := by omega
  have h2 : c < 18446744073709551616 := by omega
  have := bits_or_u64_nat (a * 256) c h1 h2
  rw [or_low a c hc] at this
  exact this
theorem numL_small {l : List UInt8} {k : Nat} (h : l.length = k) (hk : k ≤ 7) : numL l * 256 + 255 < 18446744073709551616 := by
  have h1 := numL_lt k l h
  have h2 : 256 ^ k ≤ 256 ^ 7 := Nat.pow_le_pow_right (by decide) hk
  have h3 : (256 : Nat) ^ 7 = 72057594037927936 := rfl
  omega
set_option maxRecDepth 100000 in
set_option maxHeartbeats 4000000 in
theorem get_any (s : ByteArray) (w : World) (hs : s.size = 8) :
    Calls Tryd.prog 36 #[.string s] w fun e w' => e = .returned (.int .u64 (numL s.data.toList)) ∧ Below w.heap.size w w' := by
  have hcv := Lib.run_convert_string_bytes (P := Tryd.prog) w 9 63 5 s Tryd.underlying9 Tryd.underlying63 Tryd.underlying5
  have hbw := Lib.bytesWorld_below w 5 s
  have hcell := fun j hj => Lib.bytesWorld_cell w 5 s j hj
  rw [hs] at hcv hcell
  obtain ⟨W1, hW1⟩ : ∃ W1, Lib.bytesWorld w 5 s = W1 := ⟨_, rfl⟩
  rw [hW1] at hcv hbw hcell
  obtain ⟨cap, hcap⟩ : ∃ c, grownCap w 8 0 5 = c := ⟨_, rfl⟩
  rw [hcap] at hcv
  have HC := hid hcell
  have HB := hid hbw
  have HS := hid (p := s.data.toList.length = 8) (by rw [Array.length_toList]; exact hs)
  clear hW1 hcap hcell hbw
  go_enter Tryd.func36, Tryd.ntmps36
  go_wp2_with fail
  clear hcv
  go_loopw [3, 9] (fun v i wr => ∃ (k : Nat), k ≤ 8 ∧ i = .int .i64 k ∧ v = .int .u64 ((numL (s.data.toList.take k) : Nat) : Int) ∧ wr = W1) (fun _ i _ => 8 - (intOf i).toNat)
  case atStart => exact ⟨0, by omega, rfl, rfl, rfl⟩
  case round =>
    obtain ⟨k, hk, rfl, rfl, rfl⟩ := hrel
    by_cases hlt : k < 8
    · have hl : decide ((k : Int) < 8) = true := by simp; omega
      have c0 := HC.out k hlt
      have hkl : k < s.data.toList.length := by rw [HS.out]; exact hlt
      have htk : s.data.toList.take (k + 1) = s.data.toList.take k ++ [s.data.toList[k]] := List.take_succ_eq_append_getElem hkl
      rw [List.getD_eq_getElem?_getD, List.getElem?_eq_getElem hkl, Option.getD_some] at c0
      obtain ⟨c, hc⟩ : ∃ c, s.data.toList[k] = c := ⟨_, rfl⟩
      rw [hc] at c0 htk
      have hN := numL_snoc (s.data.toList.take k) c
      rw [← htk] at hN
      have hsm := numL_small (l := s.data.toList.take k) (k := k) (by rw [List.length_take, HS.out]; omega) (by omega)
      obtain ⟨a, ha⟩ : ∃ a, numL (s.data.toList.take k) = a := ⟨_, rfl⟩
      rw [ha] at hN hsm ⊢
      have HN := hid hN
      have hc8 := c.toNat_lt
      obtain ⟨d, hd⟩ : ∃ d, c.toNat = d := ⟨_, rfl⟩
      rw [hd] at c0 hc8 HN
      have hor := bits_or_low a d (by omega) (by omega)
      have hwr : IntKind.u64.wrap ((a : Int) * 256) = (a : Int) * 256 := by rw [IntKind.wrap_u64]; omega
      have hwd : IntKind.u64.wrap (d : Int) = (d : Int) := by rw [IntKind.wrap_u64]; omega
      clear ha hd hc htk hN hkl
      go_wp2_with fail
      go_roundw
      case rel => exact ⟨k + 1, by omega, by go_num, by rw [HN.out]; simp, by first | rfl | trivial⟩
      case measure => simp [intOf]; omega
    · have hl : decide ((k : Int) < 8) = false := by simp; omega
      have hfull : s.data.toList.take k = s.data.toList := List.take_of_length_le (by rw [HS.out]; omega)
      rw [hfull]
      clear hfull
      go_wp2_with fail
      go_ret
      exact ⟨rfl, HB.out⟩
end Go.Proofs.YtfadnhihcobclaaDoor
