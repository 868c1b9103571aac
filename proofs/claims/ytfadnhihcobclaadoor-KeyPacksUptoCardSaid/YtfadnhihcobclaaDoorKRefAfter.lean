/- The walk of the reference's After. -/
import Derived.Test.YtfadnhihcobclaaDoorKAfter
namespace Go.Proofs.YtfadnhihcobclaaDoor
open Go.RowKit
open Go.Lib (hid)
theorem take_last (s : ByteArray) (m : Nat) (h0 : 0 < m) (h : m ≤ s.size) : s.data.toList.take m = s.data.toList.take (m - 1) ++ [s[m - 1]] := by
  have e : s.data.toList.take (m - 1 + 1) = s.data.toList.take (m - 1) ++ [s[m - 1]] := by
    rw [List.take_succ_eq_append_getElem (by rw [Array.length_toList]; show m - 1 < s.size; omega)]; rfl
  rw [show m - 1 + 1 = m by omega] at e
  exact e
set_option maxRecDepth 100000 in
set_option maxHeartbeats 4000000 in
theorem refAfter_any (s : ByteArray) (w : World) (hs : s.size ≤ 4000000) :
    Calls Tryd.prog 32 #[.string s] w fun e w' => e = .returned (.string ⟨(K.afterL s.data.toList).toArray⟩) ∧ Below w.heap.size w w' := by
  obtain ⟨R, hR⟩ : ∃ R, K.afterL s.data.toList = R := ⟨_, rfl⟩
  rw [hR]
  have HR0 : Hid (K.afterL (s.data.toList.take s.size) = R) := by
    show _ = _
    rw [List.take_of_length_le (by rw [Array.length_toList]; exact Nat.le_refl _)]; exact hR
  clear hR
  go_enter Tryd.func32, Tryd.ntmps32
  go_wp2_with fail
  go_loopw [3] (fun i wr => ∃ m : Nat, m ≤ s.size ∧ i = .int .i64 m ∧ Hid (K.afterL (s.data.toList.take m) = R) ∧ wr = w) (fun i _ => (intOf i).toNat)
  case atStart => exact ⟨s.size, Nat.le_refl _, rfl, HR0.out, rfl⟩
  case round =>
    obtain ⟨m, hm, rfl, hA, rfl⟩ := hrel
    clear HR0
    by_cases h0 : m = 0
    · subst h0
      have HF : Hid (R = []) := by show _ = _; rw [← hA.out]; rfl
      go_wp2_with fail
      go_ret
      exact ⟨ret_lst (a := []) HF.out.symm, Below.refl _ _⟩
    · have hl : decide ((0 : Int) < (m : Int)) = true := by simp; omega
      have hm1 : m - 1 < s.size := by omega
      have hi : (m : Int) - 1 = ((m - 1 : Nat) : Int) := by omega
      have hsn := take_last s m (by omega) hm
      have hidx : ∀ X : World, (Instr.index 9 (.string s) (.int .i64 ((m : Int) - 1))).run Tryd.prog X = .ok (.int .u8 s[m - 1].toNat) X := by
        intro X
        rw [hi, run_index_string X 9 s .i64 _ Tryd.underlying9, dif_pos (by omega)]
        rfl
      by_cases hc : s[m - 1] = 255
      · have q0 : ((s[m - 1].toNat : Int) == 255) = true := by rw [hc]; rfl
        have HN : Hid (K.afterL (s.data.toList.take (m - 1)) = R) := by
          show _ = _
          rw [← hA.out, hsn, hc]
          unfold K.afterL
          rw [K.strip_snoc]
        clear hsn hc hi
        go_wp2_with fail
        go_roundw
        case rel => exact ⟨m - 1, by omega, by go_num, HN, trivial⟩
        case measure => simp [intOf]; omega
      · have q0 : ((s[m - 1].toNat : Int) == 255) = false := beq_eq_false_iff_ne.2 (fun e => hc (UInt8.toNat_inj.1 (by show _ = 255; omega)))
        have q1 : ((m : Int) == 0) = false := beq_eq_false_iff_ne.2 (by omega)
        have hxl : (s.extract 0 (m - 1)).data.toList = s.data.toList.take (m - 1) := by rw [K.extract_cut]; rfl
        have HR : Hid ((s.extract 0 (m - 1)).data.toList ++ [s[m - 1] + 1] = R) := by
          show _ = _
          rw [hxl, ← hA.out, hsn]
          rw [K.after_stop _ _ hc]
        have hsl : ∀ X : World, (Instr.slice 9 (.string s) none (some (.int .i64 ((m : Int) - 1))) none).run Tryd.prog X = .ok (.string (s.extract 0 (m - 1))) X := by
          intro X
          have := run_slice_string_h (P := Tryd.prog) (w := X) (s := s) (t := 9) Tryd.underlying9 .i64 ((m : Int) - 1) (by omega) (by omega)
          rw [show ((m : Int) - 1).toNat = m - 1 by omega] at this
          exact this
        have hxs : (s.extract 0 (m - 1)).size = m - 1 := by
          have := congrArg List.length hxl
          rw [List.length_take] at this
          have e : (s.extract 0 (m - 1)).data.toList.length = (s.extract 0 (m - 1)).size := rfl
          have e2 : s.data.toList.length = s.size := rfl
          omega
        have hplus := K.plus_one _ hc
        obtain ⟨p, hp⟩ : ∃ p, s.extract 0 (m - 1) = p := ⟨_, rfl⟩
        rw [hp] at HR hsl hxs
        obtain ⟨c, hcc⟩ : ∃ c, s[m - 1] + 1 = c := ⟨_, rfl⟩
        rw [hcc] at HR hplus
        have hc1 : c.toNat < 256 := c.toNat_lt
        have hw : IntKind.u8.wrap ((s[m - 1].toNat : Int) + 1) = (c.toNat : Int) := by rw [hplus]; exact IntWalk.u8_in _ (by omega)
        have hcat : ∀ X : World, (Op.stringOp .add p ⟨#[c]⟩).run Tryd.prog X = .ok (.string ⟨R.toArray⟩) X := by
          intro X
          have e : p.data.toList.length = p.size := rfl
          have := run_string_add_lists (P := Tryd.prog) X p.data.toList [c] (by omega) (by simp only [List.length_cons, List.length_nil]; omega)
          rw [HR.out] at this
          exact this
        have hcv := Row.conv (Row.new wr c)
        have hcv2 := Row.conv (World.ownsRow.drew (Row.new wr c))
        have hb1 : (1 : Int) ≤ (m : Int) := by omega
        have hw1 : IntKind.i64.wrap ((m : Int) - 1) = (m : Int) - 1 := by rw [IntKind.wrap_i64]; omega
        have hw2 : wrap64 ((m : Int) - 1) = (m : Int) - 1 := by unfold wrap64; omega
        have hb2 : (m : Int) - 1 ≤ (s.size : Int) := by omega
        clear hsn hxl hc hcc hplus hi
        go_upto_region 6 with fail
        go_region_with (fail)
        go_wp2_with fail
        go_ret
        exact ⟨ret_lst (a := R) rfl, ((Below.refl wr.heap.size wr).drew.alloc (Nat.le_refl _) _)⟩
end Go.Proofs.YtfadnhihcobclaaDoor
