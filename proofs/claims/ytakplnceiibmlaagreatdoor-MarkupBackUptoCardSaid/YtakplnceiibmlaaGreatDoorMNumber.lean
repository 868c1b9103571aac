/- The reader: a reference's number. -/
import Derived.Test.YtakplnceiibmlaaGreatDoorMNumU
import Derived.Test.YtakplnceiibmlaaGreatDoorJIdx
import Derived.Test.YtakplnceiibmlaaGreatDoorMPlainC
namespace Go.Proofs.YtakplnceiibmlaaGreatDoor
open Go.RowKit
open Go.Lib (hid)
namespace X
theorem dig_lt {b d : Nat} {c : UInt8} (hb : b = 10 ∨ b = 16) (h : dig b c = some d) : d < b ∧ c ≠ 95 ∧ c ≠ 43 := by
  have hne : ∀ k : UInt8, c.toNat ≠ k.toNat → c ≠ k := fun k hk e => hk (by rw [e])
  have h95 : (95 : UInt8).toNat = 95 := rfl
  have h43 : (43 : UInt8).toNat = 43 := rfl
  unfold dig at h
  split at h
  · cases h; exact ⟨by omega, hne _ (by omega), hne _ (by omega)⟩
  · split at h
    · cases h; exact ⟨by omega, hne _ (by omega), hne _ (by omega)⟩
    · split at h
      · cases h; exact ⟨by omega, hne _ (by omega), hne _ (by omega)⟩
      · cases h
theorem numB_lt {b : Nat} (hb : b = 10 ∨ b = 16) : ∀ (l : List UInt8) (v x : Nat), numB b v l = some x → x + 1 ≤ (v + 1) * b ^ l.length ∧ ∀ c ∈ l, c ≠ 95 ∧ c ≠ 43
  | [], v, x, h => by cases h; exact ⟨by simp, fun _ h => by cases h⟩
  | c :: r, v, x, h => by
    unfold numB at h
    cases hd : dig b c with
    | none => rw [hd] at h; cases h
    | some d =>
      rw [hd] at h
      have h1 := numB_lt hb r _ _ h
      have h2 := dig_lt hb hd
      refine ⟨?_, fun y hy => ?_⟩
      · have h3 : (v * b + d + 1) * b ^ r.length ≤ ((v + 1) * b) * b ^ r.length := Nat.mul_le_mul_right _ (by rw [Nat.add_mul]; omega)
        rw [List.length_cons, Nat.pow_succ]
        calc x + 1 ≤ (v * b + d + 1) * b ^ r.length := h1.1
          _ ≤ ((v + 1) * b) * b ^ r.length := h3
          _ = (v + 1) * (b ^ r.length * b) := by rw [Nat.mul_assoc, Nat.mul_comm b]
      · rcases List.mem_cons.1 hy with rfl | hy
        · exact h2.2
        · exact h1.2 y hy
end X
theorem one_le_of_ne {l : List UInt8} (h : ¬ l.length < 1) : 1 ≤ l.length := by omega
def numT (x : Option Int) : Value := .tuple #[.int .i32 (x.getD 0), .bool x.isSome]
/-- behind the prefix: t is read at base b, most digits -/
def tailN (b most : Nat) (ds : List UInt8) : Option Int := if ds.length < 1 ∨ most < ds.length then none else match X.numB b 0 ds with | none => none | some n => if X.stands n then some (n : Int) else none
theorem number_hex {l r : List UInt8} (h : l = 120 :: r) : X.number l = tailN 16 6 r := by subst h; rfl
theorem number_dec {l : List UInt8} (h : [120].isPrefixOf l = false) : X.number l = tailN 10 7 l := by
  unfold X.number tailN
  simp only [h, Bool.false_eq_true, if_false]
  rfl
set_option maxRecDepth 100000 in
set_option maxHeartbeats 4000000 in
theorem number_any (s : ByteArray) (hs : s.size ≤ 1000000000000) (W : World) (hE : Errs W) :
    Calls Tryz.prog 80 #[.string s] W fun en W' => en = .returned (numT (X.number s.data.toList)) ∧ Below W.heap.size W W' := by
  have cP := fun U => Tryz.strings_HasPrefix s ⟨#[120]⟩ U
  unfold Lib.hasPrefix at cP
  rw [show (⟨#[120]⟩ : ByteArray).data.toList = [120] from rfl] at cP
  obtain ⟨RES, hRES⟩ : ∃ x, X.number s.data.toList = x := ⟨_, rfl⟩
  rw [hRES]
  cases hb : [120].isPrefixOf s.data.toList
  · rw [hb] at cP
    have hR : RES = tailN 10 7 s.data.toList := by rw [← hRES]; exact number_dec hb
    clear hb hRES
    go_enter Tryz.func80, Tryz.ntmps80
    go_wp2_with fail
    refine (cP _).mono ?_
    rintro e w1 ⟨rfl, hw⟩
    rw [hw]
    clear hw w1
    have HR := hid hR
    have HE := hid hE
    clear hR
    have hsz : (s).size = (s).data.toList.length := (Lib.size_eq _)
    by_cases l1 : (s).size < 1
    · have l0 : decide (((s).size : Int) < 1) = true := decide_eq_true (by omega)
      have HN : Hid (RES = none) := by show _ = _; rw [HR.out]; unfold tailN; rw [if_pos (Or.inl (by omega))]
      clear hsz
      go_wp2_with fail
      go_ret2
      exact ⟨by rw [HN.out]; rfl, Below.refl _ W⟩
    · have l0 : decide (((s).size : Int) < 1) = false := decide_eq_false (by omega)
      by_cases l2 : 7 < (s).size
      · have l3 : decide ((7 : Int) < ((s).size : Int)) = true := decide_eq_true (by omega)
        have HN : Hid (RES = none) := by show _ = _; rw [HR.out]; unfold tailN; rw [if_pos (Or.inr (by omega))]
        clear hsz
        go_wp2_with fail
        go_ret2
        exact ⟨by rw [HN.out]; rfl, Below.refl _ W⟩
      · have l3 : decide ((7 : Int) < ((s).size : Int)) = false := decide_eq_false (by omega)
        have cU := parseUint_10 (s) (by omega) (by omega) W (HE.out)
        have HT : Hid (RES = match X.numB 10 0 (s).data.toList with | none => none | some n => if X.stands n then some (n : Int) else none) := by
          show _ = _
          rw [HR.out]; unfold tailN; rw [if_neg (by omega)]
        cases hx : X.numB 10 0 (s).data.toList with
        | none =>
          rw [hx] at cU HT
          have HN : Hid (RES = none) := HT.out
          clear hx HT HR hsz
          go_wp2_with fail
          refine cU.mono ?_
          rintro e w2 ⟨⟨N, rfl⟩, hb⟩
          have HB := hid hb
          clear hb
          go_wp2_with fail
          go_ret2
          exact ⟨by rw [HN.out]; rfl, HB.out⟩
        | some x =>
          rw [hx] at cU HT
          have hlt := X.numB_lt (by omega) _ _ _ hx
          have hx1 : x + 1 ≤ 10000000 := by
            have h1 : (10 : Nat) ^ (s).data.toList.length ≤ 10 ^ 7 := Nat.pow_le_pow_right (by omega) (by omega)
            have h2 : (10 : Nat) ^ 7 = 10000000 := by decide
            omega
          have hcs := hlt.2
          have HCS := hid hcs
          have cC := fun U => containsAny_short (s) ⟨#[95, 43]⟩ (fun j b hj => by
            have : (⟨#[95, 43]⟩ : ByteArray).data.toList = [95, 43] := rfl
            rw [this] at hj
            have hm := List.mem_of_getElem? hj
            simp only [List.mem_cons, List.not_mem_nil, or_false] at hm
            rcases hm with rfl | rfl <;> decide) (by decide) (by decide) (by omega) U
          have cS := fun U => stands_any (x : Int) U
          have x0 : IntKind.i32.wrap (x : Int) = (x : Int) := by rw [IntKind.wrap_i32]; omega
          clear hx HR hsz hlt hcs
          have hv : ∀ v : Bool, (v = true → ∃ (i : Nat) (h : i < (s).size), (s)[i] ∈ (⟨#[95, 43]⟩ : ByteArray).data.toList) → v = false := fun v h => by
            cases v
            · rfl
            · obtain ⟨i, hi, hm⟩ := h rfl
              have h1 : (s)[i] ∈ (s).data.toList := by
                have := Lib.data_getElem? (s) i hi
                exact List.mem_of_getElem? this
              have h2 := HCS.out _ h1
              have : (⟨#[95, 43]⟩ : ByteArray).data.toList = [95, 43] := rfl
              rw [this] at hm
              simp only [List.mem_cons, List.not_mem_nil, or_false] at hm
              rcases hm with hm | hm
              · exact absurd hm h2.1
              · exact absurd hm h2.2
          have HV := hid hv
          clear hv HCS
          cases hst : X.stands (x : Int)
          · rw [hst] at cS
            have HN : Hid (RES = none) := by show _ = _; rw [HT.out]; simp only [hst]; rfl
            clear HT hst
            go_wp2_with fail
            refine cU.mono ?_
            rintro e w2 ⟨rfl, hb⟩
            have HB := hid hb
            clear hb cU
            go_wp2_with fail
            refine (cC _).mono ?_
            rintro e w3 ⟨⟨v, rfl, hv⟩, hb⟩
            obtain rfl := HV.out v hv
            have HB3 := hid hb
            clear hb hv cC
            go_wp2_with fail
            refine (cS _).mono ?_
            rintro e w4 ⟨rfl, rfl⟩
            go_wp2_with fail
            go_ret2
            exact ⟨by rw [HN.out]; rfl, HB.out.trans (HB3.out.mono HB.out.size)⟩
          · rw [hst] at cS
            have HN : Hid (RES = some (x : Int)) := by show _ = _; rw [HT.out]; simp only [hst]; rfl
            clear HT hst
            go_wp2_with fail
            refine cU.mono ?_
            rintro e w2 ⟨rfl, hb⟩
            have HB := hid hb
            clear hb cU
            go_wp2_with fail
            refine (cC _).mono ?_
            rintro e w3 ⟨⟨v, rfl, hv⟩, hb⟩
            obtain rfl := HV.out v hv
            have HB3 := hid hb
            clear hb hv cC
            go_wp2_with fail
            refine (cS _).mono ?_
            rintro e w4 ⟨rfl, rfl⟩
            go_wp2_with fail
            go_ret2
            exact ⟨by rw [HN.out]; rfl, HB.out.trans (HB3.out.mono HB.out.size)⟩
  · rw [hb] at cP
    obtain ⟨r, hr⟩ := X.pre_first hb
    have hlen : 1 ≤ s.size := by rw [Lib.size_eq, hr]; simp
    have hT : (s.extract 1 s.size).data.toList = r := by
      rw [Lib.extract_to_end, hr]; rfl
    have hR : RES = tailN 16 6 (s.extract 1 s.size).data.toList := by rw [← hRES, hT]; exact number_hex hr
    have i1 : (1 : Int) ≤ (s.size : Int) := by omega
    obtain ⟨t, ht⟩ : ∃ t, s.extract 1 s.size = t := ⟨_, rfl⟩
    rw [ht] at hR
    have hts : t.size ≤ 1000000000000 := by rw [← ht, ByteArray.size_extract]; omega
    clear hb hRES hr hT
    go_enter Tryz.func80, Tryz.ntmps80
    go_wp2_with fail
    refine (cP _).mono ?_
    rintro e w1 ⟨rfl, hw⟩
    rw [hw]
    clear hw w1
    go_wp2_with fail
    go_region
    clear ht
    have HR := hid hR
    have HE := hid hE
    clear hR
    have hsz : (t).size = (t).data.toList.length := (Lib.size_eq _)
    by_cases l1 : (t).size < 1
    · have l0 : decide (((t).size : Int) < 1) = true := decide_eq_true (by omega)
      have HN : Hid (RES = none) := by show _ = _; rw [HR.out]; unfold tailN; rw [if_pos (Or.inl (by omega))]
      clear hsz
      go_wp2_with fail
      go_ret2
      exact ⟨by rw [HN.out]; rfl, (Below.refl _ W).drew⟩
    · have l0 : decide (((t).size : Int) < 1) = false := decide_eq_false (by omega)
      by_cases l2 : 6 < (t).size
      · have l3 : decide ((6 : Int) < ((t).size : Int)) = true := decide_eq_true (by omega)
        have HN : Hid (RES = none) := by show _ = _; rw [HR.out]; unfold tailN; rw [if_pos (Or.inr (by omega))]
        clear hsz
        go_wp2_with fail
        go_ret2
        exact ⟨by rw [HN.out]; rfl, (Below.refl _ W).drew⟩
      · have l3 : decide ((6 : Int) < ((t).size : Int)) = false := decide_eq_false (by omega)
        have cU := parseUint_16 (t) (by omega) (by omega) W.drew (HE.out.keep (Below.refl _ W).drew)
        have HT : Hid (RES = match X.numB 16 0 (t).data.toList with | none => none | some n => if X.stands n then some (n : Int) else none) := by
          show _ = _
          rw [HR.out]; unfold tailN; rw [if_neg (by omega)]
        cases hx : X.numB 16 0 (t).data.toList with
        | none =>
          rw [hx] at cU HT
          have HN : Hid (RES = none) := HT.out
          clear hx HT HR hsz
          go_wp2_with fail
          refine cU.mono ?_
          rintro e w2 ⟨⟨N, rfl⟩, hb⟩
          have HB := hid hb
          clear hb
          go_wp2_with fail
          go_ret2
          exact ⟨by rw [HN.out]; rfl, ((Below.refl _ W).drew).trans HB.out⟩
        | some x =>
          rw [hx] at cU HT
          have hlt := X.numB_lt (by omega) _ _ _ hx
          have hx1 : x + 1 ≤ 16777216 := by
            have h1 : (16 : Nat) ^ (t).data.toList.length ≤ 16 ^ 6 := Nat.pow_le_pow_right (by omega) (by omega)
            have h2 : (16 : Nat) ^ 6 = 16777216 := by decide
            omega
          have hcs := hlt.2
          have HCS := hid hcs
          have cC := fun U => containsAny_short (t) ⟨#[95, 43]⟩ (fun j b hj => by
            have : (⟨#[95, 43]⟩ : ByteArray).data.toList = [95, 43] := rfl
            rw [this] at hj
            have hm := List.mem_of_getElem? hj
            simp only [List.mem_cons, List.not_mem_nil, or_false] at hm
            rcases hm with rfl | rfl <;> decide) (by decide) (by decide) (by omega) U
          have cS := fun U => stands_any (x : Int) U
          have x0 : IntKind.i32.wrap (x : Int) = (x : Int) := by rw [IntKind.wrap_i32]; omega
          clear hx HR hsz hlt hcs
          have hv : ∀ v : Bool, (v = true → ∃ (i : Nat) (h : i < (t).size), (t)[i] ∈ (⟨#[95, 43]⟩ : ByteArray).data.toList) → v = false := fun v h => by
            cases v
            · rfl
            · obtain ⟨i, hi, hm⟩ := h rfl
              have h1 : (t)[i] ∈ (t).data.toList := by
                have := Lib.data_getElem? (t) i hi
                exact List.mem_of_getElem? this
              have h2 := HCS.out _ h1
              have : (⟨#[95, 43]⟩ : ByteArray).data.toList = [95, 43] := rfl
              rw [this] at hm
              simp only [List.mem_cons, List.not_mem_nil, or_false] at hm
              rcases hm with hm | hm
              · exact absurd hm h2.1
              · exact absurd hm h2.2
          have HV := hid hv
          clear hv HCS
          cases hst : X.stands (x : Int)
          · rw [hst] at cS
            have HN : Hid (RES = none) := by show _ = _; rw [HT.out]; simp only [hst]; rfl
            clear HT hst
            go_wp2_with fail
            refine cU.mono ?_
            rintro e w2 ⟨rfl, hb⟩
            have HB := hid hb
            clear hb cU
            go_wp2_with fail
            refine (cC _).mono ?_
            rintro e w3 ⟨⟨v, rfl, hv⟩, hb⟩
            obtain rfl := HV.out v hv
            have HB3 := hid hb
            clear hb hv cC
            go_wp2_with fail
            refine (cS _).mono ?_
            rintro e w4 ⟨rfl, rfl⟩
            go_wp2_with fail
            go_ret2
            exact ⟨by rw [HN.out]; rfl, (((Below.refl _ W).drew).trans HB.out).trans (HB3.out.mono HB.out.size)⟩
          · rw [hst] at cS
            have HN : Hid (RES = some (x : Int)) := by show _ = _; rw [HT.out]; simp only [hst]; rfl
            clear HT hst
            go_wp2_with fail
            refine cU.mono ?_
            rintro e w2 ⟨rfl, hb⟩
            have HB := hid hb
            clear hb cU
            go_wp2_with fail
            refine (cC _).mono ?_
            rintro e w3 ⟨⟨v, rfl, hv⟩, hb⟩
            obtain rfl := HV.out v hv
            have HB3 := hid hb
            clear hb hv cC
            go_wp2_with fail
            refine (cS _).mono ?_
            rintro e w4 ⟨rfl, rfl⟩
            go_wp2_with fail
            go_ret2
            exact ⟨by rw [HN.out]; rfl, (((Below.refl _ W).drew).trans HB.out).trans (HB3.out.mono HB.out.size)⟩
end Go.Proofs.YtakplnceiibmlaaGreatDoor
