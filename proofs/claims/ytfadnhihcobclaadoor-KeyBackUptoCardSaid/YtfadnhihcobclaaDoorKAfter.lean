/- The walks of key.After and begins. -/
import Derived.Test.YtfadnhihcobclaaDoorShelf
import Derived.Test.YtfadnhihcobclaaDoorKPlainB
import Derived.Test.YtfadnhihcobclaaDoorByteRows
import Derived.WalkKit
import Derived.WalkSmall
import Derived.BigCall
import Derived.BigGuard
import Derived.LoopTactic
import Derived.Lib.Hide
import Derived.Laws.BytesString
import Derived.Below
import Derived.Deep.QuietTactic
import Derived.BigQuiet
import Derived.Deep.RegionWith
import Derived.Deep.CutBlock
namespace Go.Proofs.YtfadnhihcobclaaDoor
open Go.RowKit
open Go.Lib (hid)

namespace K
theorem extract_from (s : ByteArray) (n : Nat) : (s.extract n s.size).data.toList = s.data.toList.drop n := by
  rw [ByteArray.data_extract, Array.toList_extract]
  simp only [List.extract_eq_take_drop]
  rw [List.take_of_length_le]
  simp
theorem extract_cut (s : ByteArray) (n m : Nat) : (s.extract n m).data.toList = (s.data.toList.drop n).take (m - n) := by
  rw [ByteArray.data_extract, Array.toList_extract]
theorem list_beq (l m : List UInt8) : (l == m) = decide (l = m) := by
  by_cases h : l = m
  · subst h; simp
  · rw [decide_eq_false h, beq_eq_false_iff_ne]; exact h
theorem last_snoc (s : ByteArray) (h : 0 < s.size) : s.data.toList = s.data.toList.take (s.size - 1) ++ [s[s.size - 1]] := by
  have e : s.data.toList.take (s.size - 1 + 1) = s.data.toList.take (s.size - 1) ++ [s[s.size - 1]] := by
    rw [List.take_succ_eq_append_getElem (by rw [Array.length_toList]; show s.size - 1 < s.size; omega)]; rfl
  rw [show s.size - 1 + 1 = s.size by omega, List.take_of_length_le (by rw [Array.length_toList]; exact Nat.le_refl _)] at e
  exact e
theorem suffix_one (l : List UInt8) (c : UInt8) : Lib.hasSuffix (l ++ [c]) [255] = decide (c = 255) := by
  unfold Lib.hasSuffix
  by_cases h : c = 255
  · subst h; simp
  · rw [decide_eq_false h, Bool.eq_false_iff]
    intro hs
    rw [List.isSuffixOf_iff_suffix] at hs
    obtain ⟨r, e⟩ := hs
    have := (List.append_inj' e (by simp)).2
    exact h (List.cons.inj this).1.symm
end K
theorem ret_lst {a b : List UInt8} (h : a = b) : Ending.returned (.string ⟨a.toArray⟩) = .returned (.string ⟨b.toArray⟩) := by rw [h]

set_option maxRecDepth 100000 in
set_option maxHeartbeats 4000000 in
theorem after_any (s : ByteArray) (w : World) (hs : s.size ≤ 4000000) :
    Calls Tryd.prog 10 #[.string s] w fun e w' => e = .returned (.string ⟨(K.afterL s.data.toList).toArray⟩) ∧ Below w.heap.size w w' := by
  obtain ⟨R, hR⟩ : ∃ R, K.afterL s.data.toList = R := ⟨_, rfl⟩
  rw [hR]
  have HR := hid hR
  clear hR
  go_enter Tryd.func10, Tryd.ntmps10
  go_wp2_with fail
  go_loopw [0] (fun v wr => ∃ x : ByteArray, v = .string x ∧ x.size ≤ s.size ∧ Hid (K.afterL x.data.toList = R) ∧ wr = w) (fun v _ => match v with | .string x => x.size | _ => 0)
  case atStart => exact ⟨s, rfl, Nat.le_refl _, HR.out, rfl⟩
  case round =>
    obtain ⟨x, rfl, hx, hA, rfl⟩ := hrel
    clear HR
    have cH := Tryd.strings_HasSuffix x ⟨#[255]⟩ wr (by omega)
    rw [show (⟨#[255]⟩ : ByteArray).data.toList = [255] from rfl] at cH
    by_cases h0 : x.size = 0
    · have hnil : x.data.toList = [] := List.eq_nil_of_length_eq_zero (by rw [Array.length_toList]; exact h0)
      have hemp : x.toList.isEmpty = true := by rw [Lib.toList_data, hnil]; rfl
      rw [hnil, show Lib.hasSuffix [] [255] = false by rfl] at cH
      have HF : Hid (R = []) := by show _ = _; rw [← hA.out, hnil]; rfl
      clear hnil
      go_wp2_with fail
      refine cH.mono ?_
      rintro e w' ⟨rfl, rfl⟩
      go_wp2_with fail
      go_ret
      exact ⟨ret_lst (a := []) HF.out.symm, Below.refl _ _⟩
    · have hemp : x.toList.isEmpty = false := by
        rw [← decide_eq_emptyBytes]
        exact decide_eq_false (fun h => h0 (by rw [h]; rfl))
      have hsn := K.last_snoc x (by omega)
      rw [hsn, K.suffix_one] at cH
      have hsl : ∀ X : World, (Instr.slice 9 (.string x) none (some (.int .i64 ((x.size : Int) - 1))) none).run Tryd.prog X = .ok (.string (x.extract 0 (x.size - 1))) X := by
        intro X
        have := run_slice_string_h (P := Tryd.prog) (w := X) (s := x) (t := 9) Tryd.underlying9 .i64 ((x.size : Int) - 1) (by omega) (by omega)
        rw [show ((x.size : Int) - 1).toNat = x.size - 1 by omega] at this
        exact this
      have hxl : (x.extract 0 (x.size - 1)).data.toList = x.data.toList.take (x.size - 1) := by rw [K.extract_cut]; rfl
      have hxs : (x.extract 0 (x.size - 1)).size = x.size - 1 := by
        have := congrArg List.length hxl
        rw [List.length_take] at this
        have e : (x.extract 0 (x.size - 1)).data.toList.length = (x.extract 0 (x.size - 1)).size := rfl
        have e2 : x.data.toList.length = x.size := rfl
        omega
      by_cases hc : x[x.size - 1] = 255
      · rw [decide_eq_true hc] at cH
        have HN : Hid (K.afterL (x.extract 0 (x.size - 1)).data.toList = R) := by
          show _ = _
          rw [hxl, ← hA.out]
          conv => rhs; rw [hsn, hc]
          unfold K.afterL
          rw [K.strip_snoc]
        clear hsn hxl hc
        go_wp2_with fail
        refine cH.mono ?_
        rintro e w' ⟨rfl, rfl⟩
        go_wp2_with fail
        go_roundw
        case rel => exact ⟨_, rfl, by omega, HN, trivial⟩
        case measure => simp only []; omega
      · rw [decide_eq_false hc] at cH
        have HR : Hid ((x.extract 0 (x.size - 1)).data.toList ++ [x[x.size - 1] + 1] = R) := by
          show _ = _
          rw [hxl, ← hA.out]
          conv => rhs; rw [hsn]
          rw [K.after_stop _ _ hc]
        have hplus := K.plus_one _ hc
        obtain ⟨p, hp⟩ : ∃ p, x.extract 0 (x.size - 1) = p := ⟨_, rfl⟩
        rw [hp] at HR hsl hxs
        obtain ⟨c, hcc⟩ : ∃ c, x[x.size - 1] + 1 = c := ⟨_, rfl⟩
        rw [hcc] at HR hplus
        have hc1 : c.toNat < 256 := c.toNat_lt
        have hw : IntKind.u8.wrap ((x[x.size - 1].toNat : Int) + 1) = (c.toNat : Int) := by rw [hplus]; exact IntWalk.u8_in _ (by omega)
        have hcat : ∀ X : World, (Op.stringOp .add p ⟨#[c]⟩).run Tryd.prog X = .ok (.string ⟨R.toArray⟩) X := by
          intro X
          have e : p.data.toList.length = p.size := rfl
          have := run_string_add_lists (P := Tryd.prog) X p.data.toList [c] (by omega) (by simp only [List.length_cons, List.length_nil]; omega)
          rw [HR.out] at this
          exact this
        have hcv := Row.conv (Row.new wr c)
        have hcv2 := Row.conv (World.ownsRow.drew (Row.new wr c))
        clear hsn hxl hc hcc hp hplus
        go_wp2_with fail
        refine cH.mono ?_
        rintro e w' ⟨rfl, rfl⟩
        go_upto_region 6 with fail
        go_region_with (fail)
        go_wp2_with fail
        go_ret
        exact ⟨rfl, ((Below.refl _ w').alloc (Nat.le_refl _) _).drew⟩

/-- does one text begin with another one? -/
theorem begins_any (t s : ByteArray) (w : World) (_ : t.size ≤ 1000000000) :
    Calls Tryd.prog 11 #[.string t, .string s] w fun e w' => e = .returned (.bool (K.beginsL t.data.toList s.data.toList)) ∧ Below w.heap.size w w' := by
  by_cases h : s.size ≤ t.size
  · have hsl : ∀ X : World, (Instr.slice 9 (.string t) none (some (.int .i64 (s.size : Int))) none).run Tryd.prog X = .ok (.string (t.extract 0 s.size)) X := by
      intro X
      have := run_slice_string_h (P := Tryd.prog) (w := X) (s := t) (t := 9) Tryd.underlying9 .i64 (s.size : Int) (by omega) (by omega)
      rw [Int.toNat_natCast] at this
      exact this
    obtain ⟨q, hq⟩ : ∃ q, decide ((t.extract 0 s.size).data.toList = s.data.toList) = q := ⟨_, rfl⟩
    have hne : ((t.extract 0 s.size).toList == s.toList) = q := by rw [Lib.toList_data, Lib.toList_data, K.list_beq]; exact hq
    have hB : Hid (K.beginsL t.data.toList s.data.toList = q) := by
      show _ = _
      unfold K.beginsL
      rw [← hq, decide_eq_true (by exact h), Bool.true_and, K.extract_cut]
      rfl
    have t0 : decide ((s.size : Int) ≤ (t.size : Int)) = true := by simp; omega
    clear hq
    go_enter Tryd.func11, Tryd.ntmps11
    go_wp2_with fail
    go_ret
    exact ⟨by rw [hB.out]; rfl, Below.refl _ _⟩
  · have hB : Hid (K.beginsL t.data.toList s.data.toList = false) := by
      show _ = _
      unfold K.beginsL
      rw [decide_eq_false (by exact h), Bool.false_and]
    have t0 : decide ((s.size : Int) ≤ (t.size : Int)) = false := by simp; omega
    go_enter Tryd.func11, Tryd.ntmps11
    go_wp2_with fail
    go_ret
    exact ⟨by rw [hB.out]; rfl, Below.refl _ _⟩
end Go.Proofs.YtfadnhihcobclaaDoor
