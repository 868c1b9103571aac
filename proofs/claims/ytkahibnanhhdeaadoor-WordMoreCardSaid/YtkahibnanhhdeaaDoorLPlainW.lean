/- The walk of the law WordPlain. -/
import Derived.Test.YtkahibnanhhdeaaDoorLBackW
namespace Go.Proofs.YtkahibnanhhdeaaDoor
open Go.RowKit
open Go.Lib (hid itoa)

/-- 'int(uint(cut) % uint(n))': a place below n -/
theorem place_at (cut : Int) (n : Nat) (hn : 0 < n) (hb : n ≤ 4611686018427387904) : ∃ k : Nat, k < n ∧ wrap64 ((IntKind.u64.wrap cut).tmod (n : Int)) = (k : Int) := by
  have h0 : 0 ≤ IntKind.u64.wrap cut := by rw [IntKind.wrap_u64]; omega
  obtain ⟨m, hm⟩ := Int.eq_ofNat_of_zero_le h0
  rw [hm]
  refine ⟨m % n, Nat.mod_lt _ hn, ?_⟩
  have e : (m : Int).tmod (n : Int) = ((m % n : Nat) : Int) := by rw [Int.tmod_eq_emod_of_nonneg (by omega)]; omega
  rw [e]
  have := Nat.mod_lt m hn
  unfold wrap64
  omega

set_option maxRecDepth 100000 in
set_option maxHeartbeats 4000000 in
theorem plain_walk (s : ByteArray) (cut : Int) (w : World) (_ : s.size ≤ 140737488351232) (_ : -9223372036854775808 ≤ cut ∧ cut ≤ 9223372036854775807) (hA : All w) (hc : s.size ≤ 1048576) :
    Calls Tryd.prog 9 #[.string s, .int .i64 cut] w fun e w' => e = .returned (.bool true) ∧ Below w.heap.size w w' := by
  have c0 := works_any w hA
  obtain ⟨Q, hQ⟩ : ∃ Q : ByteArray, (⟨(W.quoteL s.data.toList).toArray⟩ : ByteArray) = Q := ⟨_, rfl⟩
  have hQl : Q.data.toList = W.quoteL s.data.toList := by rw [← hQ]
  have hQn : Q.size = (W.quoteL s.data.toList).length := by rw [← hQl]; rfl
  have hQs : Q.size ≤ 17592186044416 ∧ 2 ≤ Q.size := by
    rw [W.quoteL_length] at hQn
    have := W.quoteIn_length s.data.toList
    have e2 : s.data.toList.length = s.size := rfl
    omega
  obtain ⟨hQ1, hQ2⟩ := hQs
  have c3 : ∀ X, Calls Tryd.prog 27 #[.string s] X fun e w' => e = .returned (.string Q) ∧ Below X.heap.size X w' := fun X => by
    have := quote_any s X (by omega)
    rwa [hQ] at this
  have c4 : ∀ X, All X → Calls Tryd.prog 25 #[.string Q] X fun e w' => e = .returned (.tuple #[.string s, .bool true]) ∧ Below X.heap.size X w' := fun X h => by
    have := unquote_any Q X hQ1 h.nums.errs
    rw [hQl, W.unqL_yes] at this
    exact this
  have c5 : ∀ (k : Nat), k < Q.size → ∀ X, All X → Calls Tryd.prog 25 #[.string (Q.extract 0 k)] X fun e w' => e = .returned (.tuple #[.string ⟨#[]⟩, .bool false]) ∧ Below X.heap.size X w' := fun k hk X h => by
    have hcl : (Q.extract 0 k).data.toList = (W.quoteL s.data.toList).take k := by
      rw [W.extract_cut, hQl]; rfl
    have hcs : (Q.extract 0 k).size ≤ 17592186044416 := by
      have := congrArg List.length hcl
      rw [List.length_take] at this
      have e : (Q.extract 0 k).data.toList.length = (Q.extract 0 k).size := rfl
      omega
    have := unquote_any (Q.extract 0 k) X hcs h.nums.errs
    rw [hcl, W.quote_cut _ _ (by omega)] at this
    exact this
  have hpl : Hid (∀ (i : Nat) (h : i < Q.size), 32 ≤ Q[i].toNat ∧ Q[i].toNat ≤ 126) := by
    show ∀ _ _, _
    intro i h
    refine W.quoteL_plain s.data.toList _ ?_
    rw [← hQl]
    exact Array.getElem_mem_toList h
  clear hQ hQl hQn hc
  go_enter Tryd.func9, Tryd.ntmps9
  go_wp2_with fail
  refine c0.mono ?_
  rintro e w0 ⟨rfl, b0⟩
  go_wp2_with fail
  refine (c3 _).mono ?_
  rintro e w1 ⟨rfl, b1⟩
  have b01 := b0.trans (b1.mono b0.size)
  have a1 := hA.keep b01
  clear b1 b0
  have h2 : decide ((Q.size : Int) < 2) = false := by simp; omega
  go_wp2_with fail
  go_loop [6] (fun i => ∃ k : Nat, k ≤ Q.size ∧ i = .int .i64 k) (fun i => Q.size - (intOf i).toNat)
  case atStart => exact ⟨0, by omega, rfl⟩
  case round =>
    obtain ⟨i, hi, rfl⟩ := hrel
    by_cases hlt : i < Q.size
    · have hl : decide ((i : Int) < (Q.size : Int)) = true := by simp; omega
      have hp := hpl.out i hlt
      have p1 : decide ((Q[i].toNat : Int) < 32) = false := by simp; omega
      have p2 : decide ((126 : Int) < (Q[i].toNat : Int)) = false := by simp; omega
      clear hp
      go_wp2_with fail
      go_round
      case rel => exact ⟨i + 1, by omega, by go_num⟩
      case measure => simp [intOf]; omega
    · obtain rfl : i = Q.size := by omega
      have hl : decide ((Q.size : Int) < (Q.size : Int)) = false := by simp
      obtain ⟨k, hkl, hk⟩ := place_at cut Q.size (by omega) (by omega)
      have hsl : ∀ X : World, (Instr.slice 9 (.string Q) none (some (.int .i64 (k : Int))) none).run Tryd.prog X = .ok (.string (Q.extract 0 k)) X := by
        intro X
        have := run_slice_string_h (P := Tryd.prog) (w := X) (s := Q) (t := 9) Tryd.underlying9 .i64 (k : Int) (by omega) (by omega)
        rw [Int.toNat_natCast] at this
        exact this
      have c6 := c5 k hkl
      clear h2 c5
      go_wp2_with fail
      refine (c6 _ a1).mono ?_
      rintro e w2 ⟨rfl, b2⟩
      have b02 := b01.trans (b2.mono b01.size)
      have a2 := hA.keep b02
      clear b2 a1 b01
      go_wp2_with fail
      refine (c4 _ a2).mono ?_
      rintro e w3 ⟨rfl, b3⟩
      have b03 := b02.trans (b3.mono b02.size)
      clear b3 a2 b02
      go_wp2_with fail
      go_ret
      exact ⟨by simp, b03⟩
end Go.Proofs.YtkahibnanhhdeaaDoor
