/- The library's Cut at a separator of one byte. -/
import Derived.Test.YtakplnceiibmlaaGreatDoorMNumber
import Derived.Test.YtakplnceiibmlaaGreatDoorMMap
import Derived.Test.YtakplnceiibmlaaGreatDoorShelf
import Derived.Lib.IndexLaws
import Derived.Lib.MinMax
import Derived.OwnWalk
namespace Go.Proofs.YtakplnceiibmlaaGreatDoor
open Go.RowKit
open Go.Lib (hid)
theorem indexByte_tw (c : UInt8) : ∀ l : List UInt8, (c ∈ l → Lib.indexByte l c = ((l.takeWhile (fun x => x != c)).length : Int)) ∧ (c ∉ l → Lib.indexByte l c = -1)
  | [] => ⟨(fun h => by cases h), fun _ => rfl⟩
  | x :: r => by
    obtain ⟨h1, h2⟩ := indexByte_tw c r
    have e : Lib.indexByte (x :: r) c = if x == c then 0 else if Lib.indexByte r c == -1 then -1 else Lib.indexByte r c + 1 := rfl
    by_cases hx : x = c
    · subst hx
      refine ⟨fun _ => ?_, fun h => absurd (List.mem_cons_self ..) h⟩
      rw [e, if_pos (by simp)]
      simp
    · rw [if_neg (by simpa using hx)] at e
      constructor
      · intro h
        have hm : c ∈ r := by
          rcases List.mem_cons.1 h with h | h
          · exact absurd h.symm hx
          · exact h
        rw [e, h1 hm, if_neg (by simp only [beq_iff_eq]; omega), List.takeWhile_cons]
        simp [hx]
      · intro h
        have hm : c ∉ r := fun hr => h (List.mem_cons_of_mem _ hr)
        rw [e, h2 hm, if_pos (by decide)]
theorem tw_lt {c : UInt8} : ∀ {l : List UInt8}, c ∈ l → (l.takeWhile (fun x => x != c)).length < l.length
  | x :: r, h => by
    by_cases hx : x = c
    · rw [List.takeWhile_cons, if_neg (by simp [hx])]; simp
    · rw [List.takeWhile_cons, if_pos (by simp [hx])]
      have := tw_lt (l := r) (by
        rcases List.mem_cons.1 h with h | h
        · exact absurd h.symm hx
        · exact h)
      simp; omega
theorem tw_all {c : UInt8} : ∀ {l : List UInt8}, c ∉ l → l.takeWhile (fun x => x != c) = l
  | [], _ => rfl
  | x :: r, h => by
    rw [List.takeWhile_cons, if_pos (by simp only [bne_iff_ne, ne_eq]; intro e; subst e; exact h (List.mem_cons_self ..)), tw_all (fun hr => h (List.mem_cons_of_mem _ hr))]
theorem take_tw (p : UInt8 → Bool) : ∀ l : List UInt8, l.take (l.takeWhile p).length = l.takeWhile p
  | [] => rfl
  | x :: r => by
    rw [List.takeWhile_cons]
    split
    · simp [take_tw p r]
    · rfl
theorem ba_self (s : ByteArray) : X.ba s.data.toList = s := by simp [X.ba]
/-- what stands behind the separator -/
def cutR (s : ByteArray) (c : UInt8) : ByteArray := if c ∈ s.data.toList then s.extract ((s.data.toList.takeWhile (fun x => x != c)).length + 1) s.size else ⟨#[]⟩
/-- what Cut hands back -/
def cutT (s : ByteArray) (c : UInt8) : Value := .tuple #[.string (X.ba (s.data.toList.takeWhile (fun x => x != c))), .string (cutR s c), .bool (decide (c ∈ s.data.toList))]
set_option maxRecDepth 100000 in
set_option maxHeartbeats 2000000 in
theorem cutL_any (s : ByteArray) (c : UInt8) (hs : s.size ≤ 1000000000000) (W : World) :
    Calls Tryz.prog 95 #[.string s, .string ⟨#[c]⟩] W fun en W' => en = .returned (cutT s c) ∧ Below W.heap.size W W' := by
  have cI := fun U => Tryz.stringslite_Index_one s c U
  have hI := indexByte_tw c s.data.toList
  by_cases hm : c ∈ s.data.toList
  · obtain ⟨k, hk⟩ : ∃ k, (s.data.toList.takeWhile (fun x => x != c)).length = k := ⟨_, rfl⟩
    rw [hI.1 hm, hk] at cI
    have hlt := tw_lt hm
    rw [hk, ← Lib.size_eq] at hlt
    obtain ⟨t, ht⟩ : ∃ t, s.extract 0 k = t := ⟨_, rfl⟩
    have HE : Hid (cutT s c = .tuple #[.string t, .string (s.extract (k + 1) s.size), .bool true]) := by
      show _ = _
      unfold cutT cutR
      rw [decide_eq_true hm, if_pos hm, ← ht, hk]
      have := Go.Proofs.YtakplnceiibmlaaGreatDoor.W.extract_eq s 0 k
      rw [Nat.zero_add] at this
      rw [this, List.drop_zero, ← hk, take_tw]
      rfl
    have k0 : decide ((0 : Int) ≤ (k : Int)) = true := decide_eq_true (by omega)
    obtain ⟨k1, hk1⟩ : ∃ k1, k + 1 = k1 := ⟨_, rfl⟩
    have e1 : IntKind.i64.wrap ((k : Int) + 1) = (k1 : Int) := by rw [IntKind.wrap_i64] <;> omega
    have P1 : (0 : Int) ≤ (k : Int) := by omega
    have P2 : (k : Int) ≤ (s.size : Int) := by omega
    have P3 : (k1 : Int) ≤ (s.size : Int) := by omega
    have P4 : (0 : Int) ≤ (k1 : Int) := by omega
    rw [hk1] at HE
    clear hI hm hk hlt hk1
    go_enter Tryz.func95, Tryz.ntmps95
    go_wp2_with fail
    refine (cI _).mono ?_
    rintro e w1 ⟨rfl, hw⟩
    rw [hw]
    clear hw w1 cI
    go_wp2_with fail
    go_region
    go_wp2_with fail
    go_ret3
    exact ⟨by rw [HE.out]; rfl, (Below.refl _ W).drew⟩
  · rw [hI.2 hm] at cI
    have HE : Hid (cutT s c = .tuple #[.string s, .string ⟨#[]⟩, .bool false]) := by
      show _ = _
      unfold cutT cutR
      rw [decide_eq_false hm, if_neg hm, tw_all hm, ba_self]
    clear hI hm
    go_enter Tryz.func95, Tryz.ntmps95
    go_wp2_with fail
    refine (cI _).mono ?_
    rintro e w1 ⟨rfl, hw⟩
    rw [hw]
    clear hw w1 cI
    go_wp2_with fail
    go_ret3
    exact ⟨by rw [HE.out]; rfl, Below.refl _ W⟩
set_option maxRecDepth 100000 in
theorem cut_any (s : ByteArray) (c : UInt8) (hs : s.size ≤ 1000000000000) (W : World) :
    Calls Tryz.prog 77 #[.string s, .string ⟨#[c]⟩] W fun en W' => en = .returned (cutT s c) ∧ Below W.heap.size W W' := by
  have cC := cutL_any s c hs W
  unfold cutT at cC ⊢
  obtain ⟨a, ha⟩ : ∃ a, X.ba (s.data.toList.takeWhile (fun x => x != c)) = a := ⟨_, rfl⟩
  obtain ⟨b, hb⟩ : ∃ b, cutR s c = b := ⟨_, rfl⟩
  obtain ⟨d, hd⟩ : ∃ d, decide (c ∈ s.data.toList) = d := ⟨_, rfl⟩
  rw [ha, hb, hd] at cC ⊢
  clear ha hb hd hs
  go_enter Tryz.func77, Tryz.ntmps77
  go_wp2_with fail
  refine cC.mono ?_
  rintro e w1 ⟨rfl, hb⟩
  have HB := hid hb
  clear hb cC
  go_wp2_with fail
  go_ret3
  exact ⟨rfl, HB.out⟩
end Go.Proofs.YtakplnceiibmlaaGreatDoor
