/- The walks of the functions that read a text as a number. -/
import Derived.Test.YtohdifffdgoaaaaDoorWNum
import Derived.Test.YtohdifffdgoaaaaDoorWPlainN
import Derived.Test.YtohdifffdgoaaaaDoorWAt
import Derived.WalkSmall
import Derived.Lib.AtoiErrMem
namespace Go.Proofs.YtohdifffdgoaaaaDoor
open Go.RowKit
open Go.Lib (hid itoa)

theorem ret_ib {a b : Int × Bool} (h : a = b) : Ending.returned (.tuple #[.int .i64 a.1, .bool a.2]) = .returned (.tuple #[.int .i64 b.1, .bool b.2]) := by rw [h]
namespace W
theorem scan_no (m : Bool) (acc : Int) (c : UInt8) (r : List UInt8) (h : c.toNat < 48 ∨ 57 < c.toNat) : scan m acc (c :: r) = none := by
  have : isDig c = false := by unfold isDig; simp; omega
  simp only [scan, this, Bool.false_eq_true, ite_false]
theorem scan_yes (m : Bool) (acc : Int) (c : UInt8) (r : List UInt8) (h : 48 ≤ c.toNat ∧ c.toNat ≤ 57) : scan m acc (c :: r) = scan m (step m acc c) r := by
  have : isDig c = true := by unfold isDig; simp; omega
  simp only [scan, this, ite_true]
theorem step_minus (acc : Int) (c : UInt8) : step true acc c = wrap64 (wrap64 (10 * acc) - ((c.toNat : Int) - 48)) := by
  unfold step
  simp only [ite_true]
  unfold wrap64; omega
theorem step_plus (acc : Int) (c : UInt8) : step false acc c = wrap64 (wrap64 (10 * acc) + ((c.toNat : Int) - 48)) := by
  unfold step
  simp only [Bool.false_eq_true, ite_false]
  unfold wrap64; omega
theorem minus_of (s : ByteArray) (h : 0 < s.size) : minus s.data.toList = decide (s[0].toNat = 45) := by
  have e : s.data.toList = s[0] :: s.data.toList.drop 1 := by have := drop_cons s 0 h; simpa using this
  unfold minus
  rw [e]
  simp only [List.head?_cons, Option.some.injEq]
  rw [decide_eq_decide]
  constructor
  · intro h; rw [h]; rfl
  · intro h; exact UInt8.toNat_inj.1 h
end W

set_option maxHeartbeats 4000000 in
theorem refParse_in (s : ByteArray) (w : World) (hs : s.size ≤ 20) (h0 : 0 < s.size) :
    Calls Tryd.prog 68 #[.string s] w fun e w' => e = .returned (.tuple #[.int .i64 (W.refP s.data.toList).1, .bool (W.refP s.data.toList).2]) ∧ Below w.heap.size w w' := by
  have hlen : ¬ 20 < s.data.toList.length := by simpa using hs
  obtain ⟨RES, hRES⟩ : ∃ RES, W.scan (W.minus s.data.toList) 0 (if W.minus s.data.toList then s.data.toList.drop 1 else s.data.toList) = RES := ⟨_, rfl⟩
  have hP : Hid (W.refP s.data.toList = W.holdTo s.data.toList RES) := by
    show _ = _
    unfold W.refP; rw [if_neg hlen, hRES]
  have hm0 := W.minus_of s h0
  obtain ⟨m, hm⟩ : ∃ m, W.minus s.data.toList = m := ⟨_, rfl⟩
  rw [hm] at hRES hm0
  have hR0 : Hid (W.scan m 0 (if (0 : Nat) = 0 ∧ m = true then s.data.toList.drop 1 else s.data.toList.drop 0) = RES) := by
    show _ = _
    rw [← hRES]; cases m <;> simp
  have hb0 : ((s[0].toNat : Int) == 45) = m := by
    rw [hm0]
    by_cases h : s[0].toNat = 45
    · rw [h]; rfl
    · rw [decide_eq_false h]; exact beq_eq_false_iff_ne.2 (by omega)
  clear hm hRES hm0 hlen
  have t0 : decide ((20 : Int) < (s.size : Int)) = false := by simp; omega
  have t1 : decide ((0 : Int) < (s.size : Int)) = true := by simp; omega
  go_enter Tryd.func68, Tryd.ntmps68
  go_wp2_with fail
  clear hb0 t0 t1
  go_loop [4, 6] (fun n i => ∃ (k : Nat) (acc : Int), k ≤ s.size ∧ i = .int .i64 k ∧ n = .int .i64 acc ∧ -9223372036854775808 ≤ acc ∧ acc ≤ 9223372036854775807 ∧ Hid (W.scan m acc (if k = 0 ∧ m = true then s.data.toList.drop 1 else s.data.toList.drop k) = RES)) (fun _ i => s.size - (intOf i).toNat)
  case atStart => exact ⟨0, 0, by omega, rfl, rfl, by omega, by omega, by show _ = _; have := hR0.out; simpa using this⟩
  case round =>
    obtain ⟨k, acc, hk, rfl, rfl, ha0, ha1, hR⟩ := hrel
    clear hR0
    by_cases hlt : k < s.size
    · have hl : decide ((k : Int) < (s.size : Int)) = true := by simp; omega
      have hb : s[k].toNat < 256 := s[k].toNat_lt
      by_cases hz : k = 0 ∧ m = true
      · obtain ⟨rfl, rfl⟩ := hz
        go_wp2_with fail
        go_round
        case rel => exact ⟨1, acc, by omega, rfl, rfl, ha0, ha1, hR.out⟩
        case measure => simp [intOf]; omega
      · have hz1 : (((k : Int) == 0) && m) = false := by
          cases m
          · simp
          · simp at hz ⊢; omega
        have hR1 : Hid (W.scan m acc (s[k] :: s.data.toList.drop (k + 1)) = RES) := by
          show _ = _
          rw [← hR.out, if_neg hz, W.drop_cons s k hlt]
        have hz2 : k = 0 → m = false := by
          intro h; cases m
          · rfl
          · exact absurd ⟨h, rfl⟩ hz
        have HZ := hid hz2
        clear hz hR hz2
        have hk0 : ((k : Int) == 0) = false ∨ (((k : Int) == 0) = true ∧ m = false) := by
          by_cases h : k = 0
          · right; exact ⟨by simp [h], HZ.out h⟩
          · left; exact beq_eq_false_iff_ne.2 (by omega)
        clear hz1
        by_cases hd : s[k].toNat < 48
        · have HN : Hid (RES = none) := by
            show _ = _
            rw [← hR1.out]; exact W.scan_no _ _ _ _ (Or.inl hd)
          have d0 : decide ((s[k].toNat : Int) < 48) = true := by simp; omega
          rcases hk0 with hk0 | ⟨hk0, rfl⟩
          all_goals
            go_wp2_with fail
            go_ret2
            exact ⟨ret_ib (a := (0, false)) (by rw [hP.out, HN.out]; rfl), Below.refl _ _⟩
        · have d0 : decide ((s[k].toNat : Int) < 48) = false := by simp; omega
          by_cases hd' : 57 < s[k].toNat
          · have HN : Hid (RES = none) := by
              show _ = _
              rw [← hR1.out]; exact W.scan_no _ _ _ _ (Or.inr hd')
            have d1 : decide ((57 : Int) < (s[k].toNat : Int)) = true := by simp; omega
            rcases hk0 with hk0 | ⟨hk0, rfl⟩
            all_goals
              go_wp2_with fail
              go_ret2
              exact ⟨ret_ib (a := (0, false)) (by rw [hP.out, HN.out]; rfl), Below.refl _ _⟩
          · have d1 : decide ((57 : Int) < (s[k].toNat : Int)) = false := by simp; omega
            have HS : Hid (W.scan m (W.step m acc s[k]) (s.data.toList.drop (k + 1)) = RES) := by
              show _ = _
              rw [← hR1.out]; exact (W.scan_yes _ _ _ _ (by omega)).symm
            have hd1 : 48 ≤ s[k].toNat := by omega
            cases m
            · have hstep := hid (W.step_plus acc s[k])
              have hfit := W.wrap_fits (wrap64 (10 * acc) + ((s[k].toNat : Int) - 48))
              rcases hk0 with hk0 | ⟨hk0, -⟩
              all_goals
                go_wp2_with fail
                go_round
                case rel => exact ⟨k + 1, _, by omega, by go_num, rfl, hfit.1, hfit.2, by show _ = _; rw [if_neg (by simp), ← hstep.out]; exact HS.out⟩
                case measure => simp [intOf]; omega
            · have hstep := hid (W.step_minus acc s[k])
              have hfit := W.wrap_fits (wrap64 (10 * acc) - ((s[k].toNat : Int) - 48))
              rcases hk0 with hk0 | ⟨hk0, hh⟩
              · go_wp2_with fail
                go_round
                case rel => exact ⟨k + 1, _, by omega, by go_num, rfl, hfit.1, hfit.2, by show _ = _; rw [if_neg (by simp), ← hstep.out]; exact HS.out⟩
                case measure => simp [intOf]; omega
              · cases hh
    · obtain rfl : k = s.size := by omega
      have hl : decide ((s.size : Int) < (s.size : Int)) = false := by simp
      have HS : Hid (RES = some acc) := by
        show _ = _
        rw [← hR.out, if_neg (by omega), List.drop_of_length_le (by simp)]; rfl
      have hN := refNumber_any acc w ha0 ha1
      obtain ⟨q, hq⟩ : ∃ q, decide (itoa acc = s.data.toList) = q := ⟨_, rfl⟩
      have hne : (itoa acc == s.toList) = q := by rw [Lib.toList_data, W.list_beq]; exact hq
      have HF : Hid (W.refP s.data.toList = if q then (acc, true) else (0, false)) := by
        show _ = _
        rw [hP.out, HS.out, ← hq]
        show (if itoa acc = s.data.toList then _ else _) = _
        by_cases h : itoa acc = s.data.toList <;> simp [h]
      clear hq hR
      cases q
      all_goals
        go_wp2_with fail
        refine hN.mono ?_
        rintro e w1 ⟨rfl, hb1⟩
        go_wp2_with fail
        go_ret2
        first
          | exact ⟨ret_ib (a := (0, false)) (by rw [HF.out]; rfl), hb1⟩
          | exact ⟨ret_ib (a := (acc, true)) (by rw [HF.out]; rfl), hb1⟩

set_option maxHeartbeats 1000000 in
theorem refParse_any (s : ByteArray) (w : World) (hs : s.size ≤ 9223372036854775807) :
    Calls Tryd.prog 68 #[.string s] w fun e w' => e = .returned (.tuple #[.int .i64 (W.refP s.data.toList).1, .bool (W.refP s.data.toList).2]) ∧ Below w.heap.size w w' := by
  by_cases h20 : s.size ≤ 20
  · by_cases h0 : 0 < s.size
    · exact refParse_in s w h20 h0
    · have hnil : s.data.toList = [] := List.eq_nil_of_length_eq_zero (by rw [Array.length_toList]; show s.size = 0; omega)
      have HF : Hid (W.refP s.data.toList = (0, false)) := by
        show _ = _
        rw [hnil]
        show (if Lib.itoa 0 = [] then _ else _) = _
        rw [if_neg]
        unfold Lib.itoa
        rw [if_neg (by omega), Int.toNat_zero, Lib.decDigits, dif_pos (by omega)]
        simp
      have hne : (itoa 0 == s.toList) = false := by
        rw [Lib.toList_data, hnil]
        unfold Lib.itoa
        rw [if_neg (by omega), Int.toNat_zero, Lib.decDigits, dif_pos (by omega)]
        rfl
      have t0 : decide ((20 : Int) < (s.size : Int)) = false := by simp; omega
      have t1 : decide ((0 : Int) < (s.size : Int)) = false := decide_eq_false (by omega)
      have hN := refNumber_any 0 w (by omega) (by omega)
      clear hnil
      go_enter Tryd.func68, Tryd.ntmps68
      go_wp2_with fail
      go_loop [4, 6] (fun n i => n = .int .i64 0 ∧ i = .int .i64 0) (fun _ _ => 1)
      case atStart => exact ⟨rfl, rfl⟩
      case round =>
        obtain ⟨rfl, rfl⟩ := hrel
        go_wp2_with fail
        refine hN.mono ?_
        rintro e w1 ⟨rfl, hb1⟩
        go_wp2_with fail
        go_ret2
        exact ⟨ret_ib (a := (0, false)) (by rw [HF.out]), hb1⟩
  · have HF : Hid (W.refP s.data.toList = (0, false)) := by
      show _ = _
      unfold W.refP; rw [if_pos (by simp; omega)]
    have t0 : decide ((20 : Int) < (s.size : Int)) = true := by simp; omega
    go_enter Tryd.func68, Tryd.ntmps68
    go_wp2_with fail
    go_ret2
    exact ⟨ret_ib (a := (0, false)) (by rw [HF.out]), Below.refl _ _⟩

/-- what the library's two sentinels hold: a value of an interface's type each -/
def Errs (w : World) : Prop := (∃ tp p, w.var? Tryd.prog "strconv.ErrSyntax" = some #[.iface tp p]) ∧ (∃ tp p, w.var? Tryd.prog "strconv.ErrRange" = some #[.iface tp p])

/-- the library's ParseInt: a number and no error, or an error -/
theorem parseInt_any (s : ByteArray) (w : World) (hs : s.size ≤ 281474976710656) (hE : Errs w) :
    (∃ v, W.libP s.data.toList = some v ∧ W.Fits v ∧ Calls Tryd.prog 85 #[.string s, .int .i64 10, .int .i64 64] w fun e w' => e = .returned (.tuple #[.int .i64 v, .nilIface]) ∧ Below w.heap.size w w')
    ∨ (W.libP s.data.toList = none ∧ Calls Tryd.prog 85 #[.string s, .int .i64 10, .int .i64 64] w fun e w' => ∃ (x : Int) (N : Nat), e = .returned (.tuple #[.int .i64 x, .iface 133 (.pointer (some ⟨N, 0, none⟩))]) ∧ Below w.heap.size w w') := by
  obtain ⟨⟨t1, p1, h1⟩, ⟨t2, p2, h2⟩⟩ := hE
  rcases h : Lib.parseIntB 64 s.data.toList with v | _ | _
  · left
    have hl : W.libP s.data.toList = some v := by unfold W.libP; rw [h]
    refine ⟨v, hl, W.lib_fits _ _ hl, ?_⟩
    refine (Tryd.strconv_ParseInt_10_at64_ok s (by omega) v h w).mono ?_
    rintro e w' ⟨rfl, hw⟩
    refine ⟨rfl, ?_⟩
    rcases hw with rfl | ⟨t, rfl⟩
    · exact Below.refl _ _
    · exact Lib.bytesWorld_below _ _ _
  · right
    refine ⟨by unfold W.libP; rw [h], ?_⟩
    refine (Any.strconv_ParseInt_10_at64_syntax_var Tryd.laysC174 s hs h t1 p1 w h1).mono ?_
    rintro e w' ⟨N, rfl, _, _, hb⟩
    exact ⟨0, N, rfl, hb⟩
  · right
    refine ⟨by unfold W.libP; rw [h], ?_⟩
    refine (Any.strconv_ParseInt_10_at64_range_var Tryd.laysC174 s hs h t2 p2 w h2).mono ?_
    rintro e w' ⟨N, rfl, _, _, hb⟩
    exact ⟨_, N, rfl, hb⟩

theorem Pows.below {B : Nat} {w w' : World} (h : Pows w) (hb : Below B w w') (hB : 5 < B) : Pows w' :=
  var?_below hb (show Tryd.prog.globalNamed "internal/strconv.uint64pow10" = some 5 by kernel_rfl) hB h

set_option maxHeartbeats 1000000 in
theorem parse_any (s : ByteArray) (w : World) (hs : s.size ≤ 281474976710656) (hE : Errs w) (hP : Pows w) (hz : 5 < w.heap.size) :
    Calls Tryd.prog 66 #[.string s] w fun e w' => e = .returned (.tuple #[.int .i64 (W.parseW s.data.toList).1, .bool (W.parseW s.data.toList).2]) ∧ Below w.heap.size w w' := by
  rcases parseInt_any s w hs hE with ⟨v, hv, hf, hc⟩ | ⟨hv, hc⟩
  · obtain ⟨q, hq⟩ : ∃ q, decide (itoa v = s.data.toList) = q := ⟨_, rfl⟩
    have hne : (itoa v == s.toList) = q := by rw [Lib.toList_data, W.list_beq]; exact hq
    have HF : Hid (W.parseW s.data.toList = if q then (v, true) else (0, false)) := by
      show _ = _
      unfold W.parseW
      rw [hv, ← hq]
      show (if itoa v = s.data.toList then _ else _) = _
      by_cases h : itoa v = s.data.toList <;> simp [h]
    clear hq hv
    obtain ⟨hf0, hf1⟩ := hf
    cases q
    all_goals
      go_enter Tryd.func66, Tryd.ntmps66
      go_wp2_with fail
      refine hc.mono ?_
      rintro e w1 ⟨rfl, hb1⟩
      go_wp2_with fail
      refine (number_any v _ hf0 hf1 (hP.below hb1 hz)).mono ?_
      rintro e w2 ⟨rfl, hb2⟩
      go_wp2_with fail
      go_ret2
      first
        | exact ⟨ret_ib (a := (0, false)) (by rw [HF.out]; rfl), hb1.trans (hb2.mono hb1.size)⟩
        | exact ⟨ret_ib (a := (v, true)) (by rw [HF.out]; rfl), hb1.trans (hb2.mono hb1.size)⟩
  · have HF : Hid (W.parseW s.data.toList = (0, false)) := by
      show _ = _
      unfold W.parseW
      rw [hv]; rfl
    clear hv
    go_enter Tryd.func66, Tryd.ntmps66
    go_wp2_with fail
    refine hc.mono ?_
    rintro e w1 ⟨x, N, rfl, hb1⟩
    go_wp2_with fail
    go_ret2
    exact ⟨ret_ib (a := (0, false)) (by rw [HF.out]), hb1⟩
end Go.Proofs.YtohdifffdgoaaaaDoor
