/- The walk of the reference's count. -/
import Derived.Test.YtfadnhihcobclaaDoorKItems
import Derived.Test.YtfadnhihcobclaaDoorKText
namespace Go.Proofs.YtfadnhihcobclaaDoor
open Go.RowKit
open Go.Lib (hid)
open K
theorem cntF_big (f n : Nat) (h : ¬ n < 128) : K.cntF (f + 1) n = UInt8.ofNat (n % 128 + 128) :: K.cntF f (n / 128) := by
  conv => lhs; unfold K.cntF
  rw [if_neg h]
theorem cntF_small (f n : Nat) (h : n < 128) : K.cntF (f + 1) n = [UInt8.ofNat n] := by
  conv => lhs; unfold K.cntF
  rw [if_pos h]
def CntOf (n : Nat) (w : World) (e : Ending) (w' : World) : Prop := ∃ v, e = .returned v ∧ Row w.heap.size (K.cnt n) v w' ∧ Below w.heap.size w w'
set_option maxRecDepth 100000 in
set_option maxHeartbeats 4000000 in
theorem rcount_any (n : Nat) (hn : n < 18446744073709551616) (w : World) :
    Calls Tryd.prog 52 #[.int .u64 n] w (CntOf n w) := by
  go_enter Tryd.func52, Tryd.ntmps52
  go_wp2_with fail
  go_loopw [0, 3] (fun nv v wr => ∃ (f m : Nat) (g : List UInt8), 1 ≤ f ∧ f ≤ 10 ∧ m < 2 * 128 ^ (f - 1) ∧ nv = .int .u64 m ∧ Hid (K.cnt n = g ++ K.cntF f m ∧ g.length ≤ 10 - f) ∧ Hid (Row w.heap.size g v wr) ∧ Hid (Below w.heap.size w wr)) (fun v _ _ => (intOf v).toNat)
  case atStart => exact ⟨10, n, [], by omega, by omega, by omega, rfl, ⟨rfl, by simp⟩, Row.nil _ _, Below.refl _ _⟩
  case round =>
    obtain ⟨f, m, g, hf1, hf2, hm, rfl, hC, hR, hb⟩ := hrel
    have hm64 : m < 18446744073709551616 := by
      have : 128 ^ (f - 1) ≤ 128 ^ 9 := Nat.pow_le_pow_right (by omega) (by omega)
      omega
    obtain ⟨hC1, hC2⟩ := hC.out
    have hgl : g.length ≤ 100000000000000 := by omega
    have hwr := hb.out.size
    have HR := hid hR.out
    by_cases h128 : 128 ≤ m
    · have t0 : decide ((128 : Int) ≤ (m : Int)) = true := by simp; omega
      have hf : 2 ≤ f := by
        rcases (by omega : f = 1 ∨ 2 ≤ f) with rfl | h
        · simp at hm; omega
        · exact h
      obtain ⟨f', rfl⟩ : ∃ f', f = f' + 2 := ⟨f - 2, by omega⟩
      have HN : Hid (K.cnt n = (g ++ [UInt8.ofNat (m % 128 + 128)]) ++ K.cntF (f' + 1) (m / 128) ∧ (g ++ [UInt8.ofNat (m % 128 + 128)]).length ≤ 10 - (f' + 1)) := by
        refine ⟨?_, by simp; omega⟩
        rw [hC1, cntF_big _ _ (by omega)]; simp
      have hm' : m / 128 < 2 * 128 ^ f' := by
        have e : 128 ^ (f' + 2 - 1) = 128 * 128 ^ f' := by rw [show f' + 2 - 1 = f' + 1 by omega, Nat.pow_succ, Nat.mul_comm]
        rw [e] at hm
        omega
      obtain ⟨ch, hch⟩ : ∃ ch, UInt8.ofNat (m % 128 + 128) = ch := ⟨_, rfl⟩
      rw [hch] at HN
      have hcn : ((m : Int) % 128 + 128) = (ch.toNat : Int) := by rw [← hch, UInt8.toNat_ofNat']; omega
      have hmm : (m : Int) % 128 ≤ 127 := by omega
      have hR0 : Row w.heap.size g u3 (wr.alloc (.cells #[.int .u8 ch.toNat] 5)) := World.ownsRow.alloc hR.out _
      have hg0 := heap_alloc_new wr (.cells #[.int .u8 ch.toNat] 5)
      clear hC hC1 hm hch hR
      go_wp2_with (at_builtin; refine wpList_push rfl _ _ rfl w.heap.size g ch _ wr.heap.size rfl hR0 rfl hg0 hgl (by simp; omega) ?_)
      intro v' w3 hR3 hgrow
      have B3 := hid ((hb.out.alloc hwr (.cells #[.int .u8 ch.toNat] 5)).grown hgrow (by simp; omega) (fun k hk => (World.ownsRow.lt HR.out k hk).1))
      have R3 := hid hR3
      clear hR3 hgrow hR0 hg0
      go_wp2_with fail
      go_roundw
      case rel => exact ⟨f' + 1, m / 128, g ++ [ch], by omega, by omega, hm', by go_num, HN, R3, B3⟩
      case measure => simp [intOf]; omega
    · have t0 : decide ((128 : Int) ≤ (m : Int)) = false := by simp; omega
      obtain ⟨f', rfl⟩ : ∃ f', f = f' + 1 := ⟨f - 1, by omega⟩
      obtain ⟨ch, hch⟩ : ∃ ch, UInt8.ofNat m = ch := ⟨_, rfl⟩
      have HF : Hid (K.cnt n = g ++ [ch]) := by
        show _ = _
        rw [hC1, cntF_small _ _ (by omega), hch]
      have hcn : (m : Int) = (ch.toNat : Int) := by rw [← hch, UInt8.toNat_ofNat']; omega
      have hR0 : Row w.heap.size g u3 (wr.alloc (.cells #[.int .u8 ch.toNat] 5)) := World.ownsRow.alloc hR.out _
      have hg0 := heap_alloc_new wr (.cells #[.int .u8 ch.toNat] 5)
      clear hC hC1 hm hch hR
      go_wp2_with (at_builtin; refine wpList_push rfl _ _ rfl w.heap.size g ch _ wr.heap.size rfl hR0 rfl hg0 hgl (by simp; omega) ?_)
      intro v' w3 hR3 hgrow
      have B3 := hid ((hb.out.alloc hwr (.cells #[.int .u8 ch.toNat] 5)).grown hgrow (by simp; omega) (fun k hk => (World.ownsRow.lt HR.out k hk).1))
      have R3 := hid hR3
      clear hR3 hgrow hR0 hg0
      go_wp2_with fail
      go_ret
      exact ⟨_, rfl, by rw [HF.out]; exact R3.out, B3.out⟩
end Go.Proofs.YtfadnhihcobclaaDoor
