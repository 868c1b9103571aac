/- Numbers and hex signs. -/
import Derived.Test.YtphjfighamadgaaGreatDoorShelfN
import Derived.Test.YtphjfighamadgaaGreatDoorJA1
import Derived.Lib.Hide
import Derived.WalkSmall
import Derived.ProofKit
import Derived.Lib.ConvBytes
import Derived.RowKit
import Derived.WalkKit
import Derived.Deep.WholeRow
import Derived.Below
import Derived.OneCell
namespace Go.Proofs.YtphjfighamadgaaGreatDoor
open Go.RowKit
open Go.Lib (hid)
/-- what the library's two sentinels hold: a value of an interface's type each -/
def Errs (w : World) : Prop := (∃ tp p, w.var? Tryz.prog "strconv.ErrSyntax" = some #[.iface tp p]) ∧ (∃ tp p, w.var? Tryz.prog "strconv.ErrRange" = some #[.iface tp p])

/-- the library's ParseInt: a number and no error, or an error -/
theorem parseInt_any (s : ByteArray) (w : World) (hs : s.size ≤ 281474976710656) (hE : Errs w) :
    (∃ v, W.libP s.data.toList = some v ∧ W.Fits v ∧ Calls Tryz.prog 67 #[.string s, .int .i64 10, .int .i64 64] w fun e w' => e = .returned (.tuple #[.int .i64 v, .nilIface]) ∧ Below w.heap.size w w')
    ∨ (W.libP s.data.toList = none ∧ Calls Tryz.prog 67 #[.string s, .int .i64 10, .int .i64 64] w fun e w' => ∃ (x : Int) (N : Nat), e = .returned (.tuple #[.int .i64 x, .iface 145 (.pointer (some ⟨N, 0, none⟩))]) ∧ Below w.heap.size w w') := by
  obtain ⟨⟨t1, p1, h1⟩, ⟨t2, p2, h2⟩⟩ := hE
  rcases h : Lib.parseIntB 64 s.data.toList with v | _ | _
  · left
    have hl : W.libP s.data.toList = some v := by unfold W.libP; rw [h]
    refine ⟨v, hl, W.lib_fits _ _ hl, ?_⟩
    refine (Tryz.strconv_ParseInt_10_at64_ok s (by omega) v h w).mono ?_
    rintro e w' ⟨rfl, hw⟩
    refine ⟨rfl, ?_⟩
    rcases hw with rfl | ⟨t, rfl⟩
    · exact Below.refl _ _
    · exact Lib.bytesWorld_below _ _ _
  · right
    refine ⟨by unfold W.libP; rw [h], ?_⟩
    refine (Any.strconv_ParseInt_10_at64_syntax_var Tryz.laysC174 s hs h t1 p1 w h1).mono ?_
    rintro e w' ⟨N, rfl, _, _, hb⟩
    exact ⟨0, N, rfl, hb⟩
  · right
    refine ⟨by unfold W.libP; rw [h], ?_⟩
    refine (Any.strconv_ParseInt_10_at64_range_var Tryz.laysC174 s hs h t2 p2 w h2).mono ?_
    rintro e w' ⟨N, rfl, _, _, hb⟩
    exact ⟨_, N, rfl, hb⟩

theorem Errs.keep {w w' : World} (h : Errs w) (hb : Below w.heap.size w w') : Errs w' := by
  obtain ⟨⟨t1, p1, h1⟩, ⟨t2, p2, h2⟩⟩ := h
  have c1 : w.cell? ⟨4, 0, none⟩ = some (.iface t1 p1) := by
    have h0 := World.var?_cell (show Tryz.prog.globalNamed "strconv.ErrSyntax" = some 4 by kernel_rfl) h1 0
    simpa using h0
  have c2 : w.cell? ⟨5, 0, none⟩ = some (.iface t2 p2) := by
    have h0 := World.var?_cell (show Tryz.prog.globalNamed "strconv.ErrRange" = some 5 by kernel_rfl) h2 0
    simpa using h0
  exact ⟨⟨t1, p1, var?_below hb (show Tryz.prog.globalNamed "strconv.ErrSyntax" = some 4 by kernel_rfl) (Lib.lt_of_cell c1) h1⟩,
    ⟨t2, p2, var?_below hb (show Tryz.prog.globalNamed "strconv.ErrRange" = some 5 by kernel_rfl) (Lib.lt_of_cell c2) h2⟩⟩
theorem parseInt_some {s : ByteArray} {v : Int} (h : W.libP s.data.toList = some v) (hs : s.size ≤ 281474976710656) {w : World} (hE : Errs w) :
    Calls Tryz.prog 67 #[.string s, .int .i64 10, .int .i64 64] w fun e w' => e = .returned (.tuple #[.int .i64 v, .nilIface]) ∧ Below w.heap.size w w' := by
  rcases parseInt_any s w hs hE with ⟨u, hu, _, hc⟩ | ⟨hu, _⟩
  · rw [h] at hu
    cases hu
    exact hc
  · rw [h] at hu; cases hu
theorem parseInt_none {s : ByteArray} (h : W.libP s.data.toList = none) (hs : s.size ≤ 281474976710656) {w : World} (hE : Errs w) :
    Calls Tryz.prog 67 #[.string s, .int .i64 10, .int .i64 64] w fun e w' => ∃ (x : Int) (N : Nat), e = .returned (.tuple #[.int .i64 x, .iface 145 (.pointer (some ⟨N, 0, none⟩))]) ∧ Below w.heap.size w w' := by
  rcases parseInt_any s w hs hE with ⟨u, hu, _, hc⟩ | ⟨_, hc⟩
  · rw [h] at hu; cases hu
  · exact hc
end Go.Proofs.YtphjfighamadgaaGreatDoor
namespace Go.Proofs.YtphjfighamadgaaGreatDoor
open Go.RowKit
open Go.Lib (hid)

theorem lower_bits (c : UInt8) : bits .or .u8 (c.toNat : Int) 32 = ((c.toNat ||| 32 : Nat) : Int) := by
  have hf : ∀ y : Fin 256, bits .or .u8 ((y.val : Nat) : Int) 32 = ((y.val ||| 32 : Nat) : Int) := by decide +kernel
  exact hf ⟨c.toNat, c.toNat_lt⟩
theorem lower_any (c : UInt8) (w : World) :
    Calls Tryz.prog 118 #[.int .u8 c.toNat] w fun e w' => e = .returned (.int .u8 ((c.toNat ||| 32 : Nat) : Int)) ∧ w' = w := by
  have hb := lower_bits c
  obtain ⟨L, hL⟩ : ∃ L : Nat, c.toNat ||| 32 = L := ⟨_, rfl⟩
  rw [hL] at hb ⊢
  go_enter Tryz.func118, Tryz.ntmps118
  go_wp2
  go_ret
  exact ⟨rfl, rfl⟩

/-- what the inner reader hands back -/
def hexT : Option Nat → Value
  | some x => .tuple #[.int .u64 x, .nilIface]
  | none => .tuple #[.int .u64 0, .iface 142 (.int .i64 2)]

set_option maxHeartbeats 32000000 in
set_option maxRecDepth 100000 in
theorem innerUint_hex4 (t : ByteArray) (h2 : t.size = 4) (w : World) :
    Calls Tryz.prog 104 #[.string t, .int .i64 16, .int .i64 32] w fun e w' => e = .returned (hexT (W.hexP 0 t.data.toList)) ∧ w' = Lib.bytesWorld w 5 t := by
  have hemp : t.toList.isEmpty = false := by
    rw [← decide_eq_emptyBytes]
    exact decide_eq_false (fun h => by rw [h] at h2; exact absurd h2 (by decide))
  have hcv := Lib.run_convert_string_bytes (P := Tryz.prog) w 9 67 5 t (u := .string) Tryz.underlying9 Tryz.underlying67 Tryz.underlying5
  have hB : ∀ j, j < t.size → (Lib.bytesWorld w 5 t).cell? ⟨w.heap.size, j, none⟩ = some (.int .u8 (t.data.toList.getD j 0).toNat) := fun j hj => Lib.bytesWorld_cell w 5 t j hj
  obtain ⟨W1, hW1⟩ : ∃ W1, W1 = Lib.bytesWorld w 5 t := ⟨_, rfl⟩
  rw [← hW1] at hcv hB ⊢
  clear hW1
  obtain ⟨bs, hL⟩ : ∃ bs, bs = t.data.toList := ⟨_, rfl⟩
  have hLn : bs.length = t.size := by rw [hL, Lib.size_eq]
  rw [← hL] at hB ⊢
  clear hL
  obtain ⟨RES, hRES⟩ : ∃ RES, W.hexP 0 bs = RES := ⟨_, rfl⟩
  rw [hRES]
  have hmv : IntKind.u64.wrap (IntKind.u64.wrap 4294967296 - 1) = 4294967295 := by
    rw [IntKind.wrap_u64, IntKind.wrap_u64]
    decide
  go_enter Tryz.func104, Tryz.ntmps104
  go_wp2
  go_loop [12, 13, 101] (fun vu vn vi => ∃ (k acc : Nat) (a : Int), vu = .bool false ∧ vn = .int .u64 a ∧ vi = .int .i64 k ∧ k ≤ 4 ∧ Hid (a = (acc : Int) ∧ (k ≤ 3 → acc ≤ 4095) ∧ (k ≤ 2 → acc ≤ 255) ∧ (k ≤ 1 → acc ≤ 15) ∧ acc ≤ 65535 ∧ (k = 0 → acc = 0) ∧ W.hexP acc (bs.drop k) = RES))
    (fun _ _ vi => 4 - (intOf vi).toNat)
  case atStart => exact ⟨0, 0, 0, rfl, rfl, rfl, by omega, rfl, by omega, by omega, by omega, by omega, by omega, hRES⟩
  case round =>
    obtain ⟨k, acc, a, rfl, rfl, rfl, hk, hh⟩ := hrel
    obtain ⟨ha, hk3, hk2, hk1, hacc, hk0, hd⟩ := hh.out
    clear hh
    have a0 : 0 ≤ a := by omega
    have a1 : a ≤ 65535 := by omega
    clear hRES
    by_cases hkn : k < 4
    · have hc := hB k (by omega)
      have hdrop : bs.drop k = bs[k]'(by omega) :: bs.drop (k + 1) := List.drop_eq_getElem_cons (by omega)
      have hget : bs.getD k 0 = bs[k]'(by omega) := by simp [List.getD, List.getElem?_eq_getElem (show k < bs.length by omega)]
      rw [hdrop] at hd
      rw [hget] at hc
      generalize bs[k]'(by omega) = c at hc hd
      have hc256 : c.toNat < 256 := c.toNat_lt
      have hl256 : (c.toNat ||| 32) < 256 := by have := (c ||| 32).toNat_lt; rwa [UInt8.toNat_or] at this
      have a2 : a ≤ 4095 := by have := hk3 (by omega); omega
      have cL := fun w' : World => lower_any c w'
      have hl : decide ((k : Int) < (t.size : Int)) = true := by simp; omega
      clear hB hdrop hget
      have hstep : ∀ d : Nat, d < 16 → W.hexV c = some d → Hid (a * 16 + (d : Int) = ((acc * 16 + d : Nat) : Int) ∧ (k + 1 ≤ 3 → acc * 16 + d ≤ 4095) ∧ (k + 1 ≤ 2 → acc * 16 + d ≤ 255) ∧ (k + 1 ≤ 1 → acc * 16 + d ≤ 15) ∧ acc * 16 + d ≤ 65535 ∧ (k + 1 = 0 → acc * 16 + d = 0) ∧ W.hexP (acc * 16 + d) (bs.drop (k + 1)) = RES) := by
        intro d hd16 hv
        rw [W.hexP_some _ _ _ _ hv] at hd
        have h3 := hk3 (by omega)
        exact ⟨by omega, by intro h; have := hk2 (by omega); omega, by intro h; have := hk1 (by omega); omega, by intro h; have := hk0 (by omega); omega, by omega, by omega, hd⟩
      have hnone : W.hexV c = none → Hid (RES = none) := by
        intro hv
        rw [W.hexP_none _ _ _ hv] at hd
        exact hd.symm
      clear hd hk3 hk2 hk1 hk0 hacc ha
      by_cases hdig : 48 ≤ c.toNat ∧ c.toNat ≤ 57
      · have hv : W.hexV c = some (c.toNat - 48) := by unfold W.hexV; rw [if_pos hdig]
        have HN := hstep _ (by omega) hv
        have e0 : ((c.toNat : Int) == 95) = false := beq_eq_false_iff_ne.2 (by omega)
        have e1 : decide ((48 : Int) ≤ (c.toNat : Int)) = true := by simp; omega
        have e2 : decide ((c.toNat : Int) ≤ 57) = true := by simp; omega
        have iov : a * 16 + ((c.toNat : Int) - 48) ≤ 4294967295 := by omega
        clear hv hstep hnone
        go_wp2_with fail
        refine ⟨⟨k + 1, acc * 16 + (c.toNat - 48), a * 16 + ((c.toNat - 48 : Nat) : Int), rfl, (by first | rfl | (congr 1; omega)), (by first | rfl | (congr 1; omega)), by omega, HN⟩, by simp [intOf]; omega⟩
      · obtain ⟨L, hLL⟩ : ∃ L : Nat, c.toNat ||| 32 = L := ⟨_, rfl⟩
        have hV : W.hexV c = if 97 ≤ L ∧ L ≤ 102 then some (L - 87) else none := by unfold W.hexV; rw [if_neg hdig, hLL]
        have hu : c.toNat = 95 → ¬ (97 ≤ L ∧ L ≤ 122) := by
          intro h; rw [h] at hLL; subst hLL; decide
        rw [hLL] at hl256 cL
        clear hLL
        have e95 : ∀ q, decide (c.toNat = 95) = q → ((c.toNat : Int) == 95) = q := by
          intro q h; rw [← h]
          by_cases h' : c.toNat = 95
          · rw [h']; rfl
          · rw [decide_eq_false h']; exact beq_eq_false_iff_ne.2 (by omega)
        have hdg : decide ((48 : Int) ≤ (c.toNat : Int)) = false ∨ (decide ((48 : Int) ≤ (c.toNat : Int)) = true ∧ decide ((c.toNat : Int) ≤ 57) = false) := by
          by_cases h : 48 ≤ c.toNat
          · right; exact ⟨by simp; omega, by simp; omega⟩
          · left; simp; omega
        by_cases hlet : 97 ≤ L ∧ L ≤ 122
        · have e0 := e95 false (decide_eq_false (fun h => hu h hlet))
          have e3 : decide ((97 : Int) ≤ (L : Int)) = true := by simp; omega
          have e4 : decide ((L : Int) ≤ 122) = true := by simp; omega
          by_cases h6 : L ≤ 102
          · have HN := hstep (L - 87) (by omega) (by rw [hV, if_pos (by omega)])
            have iov : a * 16 + ((L : Int) - 97 + 10) ≤ 4294967295 := by omega
            obtain ⟨hlet0, -⟩ := hlet
            clear hV hu e95 hstep hnone hdig
            rcases hdg with e1 | ⟨e1, e2⟩
            all_goals
              go_wp2_with (go_at_call 118; refine (cL _).mono ?_; rintro e w' ⟨rfl, rfl⟩)
              refine ⟨⟨k + 1, acc * 16 + (L - 87), a * 16 + ((L - 87 : Nat) : Int), rfl, (by first | rfl | (congr 1; omega)), (by first | rfl | (congr 1; omega)), by omega, HN⟩, by simp [intOf]; omega⟩
          · have HN := hnone (by rw [hV, if_neg (by omega)])
            obtain ⟨hlet0, hlet1⟩ := hlet
            clear hV hu e95 hstep hnone hdig
            rcases hdg with e1 | ⟨e1, e2⟩
            all_goals
              go_wp2_with (go_at_call 118; refine (cL _).mono ?_; rintro e w' ⟨rfl, rfl⟩)
              go_ret2
              exact ⟨by rw [HN.out]; rfl, rfl⟩
        · have HN := hnone (by rw [hV, if_neg (by omega)])
          have hlt : decide ((97 : Int) ≤ (L : Int)) = false ∨ (decide ((97 : Int) ≤ (L : Int)) = true ∧ decide ((L : Int) ≤ 122) = false) := by
            by_cases h : 97 ≤ L
            · right; exact ⟨by simp; omega, by simp; omega⟩
            · left; simp; omega
          clear hV hu hstep hnone hdig hlet
          by_cases h95 : c.toNat = 95
          all_goals
            have e0 := e95 _ (by first | exact decide_eq_true h95 | exact decide_eq_false h95)
            clear e95 h95
            rcases hdg with e1 | ⟨e1, e2⟩
            all_goals
              rcases hlt with e3 | ⟨e3, e4⟩
              all_goals
                go_wp2_with (go_at_call 118; refine (cL _).mono ?_; rintro e w' ⟨rfl, rfl⟩)
                go_ret2
                exact ⟨by rw [HN.out]; rfl, rfl⟩
    · obtain rfl : k = 4 := by omega
      rw [List.drop_of_length_le (by omega)] at hd
      have hl : decide ((4 : Int) < (t.size : Int)) = false := by simp; omega
      have HD : Hid (RES = some acc) := hd.symm
      subst ha
      clear hd hB hk3 hk2 hk1 hk0 hacc a0 a1
      go_wp2_with fail
      go_ret2
      exact ⟨by rw [HD.out]; rfl, rfl⟩
end Go.Proofs.YtphjfighamadgaaGreatDoor
namespace Go.Proofs.YtphjfighamadgaaGreatDoor
open Go.RowKit
open Go.Lib (hid)

set_option maxHeartbeats 4000000 in
set_option maxRecDepth 100000 in
theorem parseHex4_any (t : ByteArray) (h2 : t.size = 4) (w : World) (hE : Errs w) :
    Calls Tryz.prog 111 #[.string t, .int .i64 16, .int .i64 32] w fun e w' =>
      (match W.hexP 0 t.data.toList with
        | some x => e = .returned (.tuple #[.int .u64 x, .nilIface])
        | none => ∃ N, e = .returned (.tuple #[.int .u64 0, .iface 145 (.pointer (some ⟨N, 0, none⟩))])) ∧ Below w.heap.size w w' := by
  have hI := innerUint_hex4 t h2 w
  cases hx : W.hexP 0 t.data.toList with
  | some x =>
    rw [hx] at hI
    clear hx
    simp only [hexT] at hI
    go_enter Tryz.func111, Tryz.ntmps111
    go_wp2_with fail
    refine hI.mono ?_
    rintro e w1 ⟨rfl, rfl⟩
    go_wp2_with fail
    go_ret2
    exact ⟨rfl, Lib.bytesWorld_below _ _ _⟩
  | none =>
    rw [hx] at hI
    clear hx
    simp only [hexT] at hI
    obtain ⟨⟨t1, p1, h1⟩, _⟩ := hE
    have hc : w.cell? ⟨4, 0, none⟩ = some (.iface t1 p1) := by
      have h0 := World.var?_cell (show Tryz.prog.globalNamed "strconv.ErrSyntax" = some 4 by kernel_rfl) h1 0
      simpa using h0
    have hlt := Lib.lt_of_cell hc
    have hc2 : (Lib.bytesWorld w 5 t).cell? ⟨4, 0, none⟩ = some (.iface t1 p1) := ((Lib.bytesWorld_below w 5 t).cell hlt).trans hc
    have hE := Any.strconv_toError_syntax (ρ := Tryz.laysC174_ren) { Tryz.laysC174 with } ⟨#[80, 97, 114, 115, 101, 85, 105, 110, 116]⟩ t 16 32 (.iface t1 p1) _ (by omega) hc2 (Or.inr ⟨_, _, rfl⟩)
    have hb0 := Lib.bytesWorld_below w 5 t
    obtain ⟨W1, hW1⟩ : ∃ W1, W1 = Lib.bytesWorld w 5 t := ⟨_, rfl⟩
    rw [← hW1] at hI hE hb0
    clear hW1 hc hc2 h1
    go_enter Tryz.func111, Tryz.ntmps111
    go_wp2_with fail
    refine hI.mono ?_
    rintro e w1 ⟨rfl, rfl⟩
    go_wp2_with fail
    refine hE.mono ?_
    rintro e w2 ⟨N, rfl, _, _, hb⟩
    go_wp2_with fail
    go_ret2
    exact ⟨⟨N, rfl⟩, hb0.trans (hb.mono hb0.size)⟩
end Go.Proofs.YtphjfighamadgaaGreatDoor
namespace Go.Proofs.YtphjfighamadgaaGreatDoor
namespace J
def fourI (l : List UInt8) : Int := match four l with | some v => (v : Nat) | none => -1
/-- what begins with \u and four digits: their number; else -1 -/
def u6 : List UInt8 → Int
  | 92 :: 117 :: r => fourI r
  | _ => -1
theorem hexV_eq (c : UInt8) : W.hexV c = hexV c := by
  have h : ∀ n : Fin 256, W.hexV (UInt8.ofNat n.val) = hexV (UInt8.ofNat n.val) := by decide +kernel
  have := h ⟨c.toNat, c.toNat_lt⟩
  simpa using this
theorem hexP_four {a b c d : UInt8} (r : List UInt8) : W.hexP 0 [a, b, c, d] = four (a :: b :: c :: d :: r) := by
  simp only [W.hexP, hexV_eq, four]
  cases hexV a with
  | none => rfl
  | some x => simp only; cases hexV b with
    | none => rfl
    | some y => simp only; cases hexV c with
      | none => rfl
      | some z => simp only; cases hexV d with
        | none => rfl
        | some u => simp
theorem four_short {l : List UInt8} (h : l.length < 4) : four l = none := by
  match l, h with
  | [], _ => rfl
  | [_], _ => rfl
  | [_, _], _ => rfl
  | [_, _, _], _ => rfl
theorem u6_short {l : List UInt8} (h : l.length < 6) : u6 l = -1 := by
  unfold u6
  split
  · unfold fourI
    rw [four_short (by simp at h; omega)]
  · rfl
theorem u6_not {a b : UInt8} {r : List UInt8} (h : ¬ (a = 92 ∧ b = 117)) : u6 (a :: b :: r) = -1 := by
  unfold u6
  split
  · rename_i e
    simp only [List.cons.injEq] at e
    exact absurd ⟨e.1, e.2.1⟩ h
  · rfl
theorem u6_yes (r : List UInt8) : u6 (92 :: 117 :: r) = fourI r := rfl
theorem hexV_sign {c : UInt8} (h : c ∈ [(43 : UInt8), 45, 95]) : hexV c = none := by
  simp only [List.mem_cons, List.not_mem_nil, or_false] at h
  rcases h with rfl | rfl | rfl <;> rfl
theorem four_sign {a b c d : UInt8} (r : List UInt8) (h : hexV a = none ∨ hexV b = none ∨ hexV c = none ∨ hexV d = none) : four (a :: b :: c :: d :: r) = none := by
  simp only [four]
  rcases h with h | h | h | h
  · rw [h]
  · rw [h]; cases hexV a <;> rfl
  · rw [h]; cases hexV a <;> cases hexV b <;> rfl
  · rw [h]; cases hexV a <;> cases hexV b <;> cases hexV c <;> rfl
theorem four_lt {r : List UInt8} {v : Nat} (h : four r = some v) : v ≤ 65535 := by
  have hv : ∀ c x, hexV c = some x → x < 16 := fun c x h => W.hexV_lt c x ((hexV_eq c).trans h)
  unfold four at h
  split at h
  · split at h
    · rename_i x y z u h1 h2 h3 h4
      have := hv _ _ h1
      have := hv _ _ h2
      have := hv _ _ h3
      have := hv _ _ h4
      have := Option.some.inj h
      omega
    · cases h
  · cases h
theorem fourI_lt (r : List UInt8) : fourI r = -1 ∨ (0 ≤ fourI r ∧ fourI r ≤ 65535) := by
  unfold fourI
  cases h : four r with
  | none => left; rfl
  | some v =>
    have := four_lt h
    right; show 0 ≤ (v : Int) ∧ (v : Int) ≤ 65535; omega
theorem u6_lt (l : List UInt8) : u6 l = -1 ∨ (0 ≤ u6 l ∧ u6 l ≤ 65535) := by
  unfold u6
  split
  · exact fourI_lt _
  · left; rfl
end J
end Go.Proofs.YtphjfighamadgaaGreatDoor
namespace Go.Proofs.YtphjfighamadgaaGreatDoor
open Go.RowKit
theorem results_pair {P : Program} {fn : Func} {p q : Tmp} {ty : TypeId} (h : fn.results = #[.cell p ty, .tmp q]) (tmps : Array Value) (w : World) (g : Nat) (t : TypeId) (cs : Array Value) (fr : Nat × Nat) (d : TypeDesc) (v : Value)
    (hp : tmps.getD p undef = .pointer (some ⟨g, 0, none⟩)) (hg : w.heap[g]? = some (.cells cs t fr)) (hq : tmps.getD q undef = v)
    (hu : P.underlying ty = some d) (hd : (match d with | .struct _ | .array _ _ => true | _ => false) = true) (hi : (P.info? ty).map (·.size) = some cs.size) :
    (results fn tmps).run P w = .ok (.tuple #[.agg cs, v]) w := by
  have hp' : tmps[p]?.getD undef = .pointer (some ⟨g, 0, none⟩) := by simpa using hp
  have hq' : tmps[q]?.getD undef = v := by simpa using hq
  simp [results, h, hp', hq', asAddr, run_loadVar_row w g t ty cs fr d hg hu hd hi]

theorem rowCell {w : World} {b : Nat} {cs : Array Value} {t : TypeId} (h : w.heap[b]? = some (.cells cs t (0, 0))) (i : Nat) : w.cell? ⟨b, i, none⟩ = cs[i]? := by rw [cell_of_row _ _ _ _ _ _ h]
theorem rowFree {w : World} {b : Nat} {cs : Array Value} {t : TypeId} (h : w.heap[b]? = some (.cells cs t (0, 0))) (i : Nat) : w.frozen? ⟨b, i, none⟩ = false := by simp [World.frozen?, h]
theorem row4 {w : World} {b : Nat} {x y z u : Value} {t : TypeId} (h : w.heap[b]? = some (.cells #[x, y, z, u] t (0, 0))) :
    w.cell? ⟨b, 0, none⟩ = some x ∧ w.cell? ⟨b, 1, none⟩ = some y ∧ w.cell? ⟨b, 2, none⟩ = some z ∧ w.cell? ⟨b, 3, none⟩ = some u := ⟨rowCell h 0, rowCell h 1, rowCell h 2, rowCell h 3⟩
theorem free4 {w : World} {b : Nat} {cs : Array Value} {t : TypeId} (h : w.heap[b]? = some (.cells cs t (0, 0))) :
    w.frozen? ⟨b, 0, none⟩ = false ∧ w.frozen? ⟨b, 1, none⟩ = false ∧ w.frozen? ⟨b, 2, none⟩ = false ∧ w.frozen? ⟨b, 3, none⟩ = false := ⟨rowFree h 0, rowFree h 1, rowFree h 2, rowFree h 3⟩

theorem row_set {w : World} {b : Nat} {cs : Array Value} {t : TypeId} (h : w.heap[b]? = some (.cells cs t (0, 0))) (i : Nat) (v : Value) : (w.setCell ⟨b, i, none⟩ v).heap[b]? = some (.cells (cs.setIfInBounds i v) t (0, 0)) := by
  have hlt := Go.lt_of_block h
  have h' : w.heap[b] = .cells cs t (0, 0) := by simpa [Array.getElem?_eq_getElem hlt] using h
  show (w.heap.modify b _)[b]? = _
  rw [Array.getElem?_eq_getElem (by simpa using hlt), Array.getElem_modify_self, h']
  rfl
theorem row4_set {w : World} {b : Nat} {x y z u : Value} {t : TypeId} (h : w.heap[b]? = some (.cells #[x, y, z, u] t (0, 0))) (x' y' z' u' : Value) :
    ((((w.setCell ⟨b, 0, none⟩ x').setCell ⟨b, 1, none⟩ y').setCell ⟨b, 2, none⟩ z').setCell ⟨b, 3, none⟩ u').heap[b]? = some (.cells #[x', y', z', u'] t (0, 0)) :=
  row_set (row_set (row_set (row_set h 0 x') 1 y') 2 z') 3 u'
theorem below4_set {B : Nat} {a w : World} {b : Nat} (h : Below B a w) (hb : B ≤ b) (x y z u : Value) : Below B a ((((w.setCell ⟨b, 0, none⟩ x).setCell ⟨b, 1, none⟩ y).setCell ⟨b, 2, none⟩ z).setCell ⟨b, 3, none⟩ u) :=
  (((h.setCell (p := ⟨b, 0, none⟩) hb x).setCell (p := ⟨b, 1, none⟩) hb y).setCell (p := ⟨b, 2, none⟩) hb z).setCell (p := ⟨b, 3, none⟩) hb u

end Go.Proofs.YtphjfighamadgaaGreatDoor
