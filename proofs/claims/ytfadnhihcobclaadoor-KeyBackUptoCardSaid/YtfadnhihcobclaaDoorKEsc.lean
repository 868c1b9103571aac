/- Plain: the escape of noughts: byte by byte. No program in sight. Written by hand for this claim. -/
import Derived.Test.YtfadnhihcobclaaDoorKPlainP
import Derived.Lib.SplitLaws
import Derived.Lib.IndexBytes
namespace Go.Proofs.YtfadnhihcobclaaDoor
namespace K
open Go.Lib (index count replaceK replaceAll)
def escL : List UInt8 → List UInt8
  | [] => []
  | c :: r => if c = 0 then 0 :: 255 :: escL r else c :: escL r
theorem escL_length : ∀ (l : List UInt8), (escL l).length ≤ 2 * l.length
  | [] => by simp [escL]
  | c :: r => by
    have := escL_length r
    unfold escL
    split <;> simp only [List.length_cons] <;> omega
theorem index_0 (r : List UInt8) : index (0 :: r) [0] = 0 := by
  refine Go.Lib.index_first (i := 0) (Nat.zero_le _) ?_ (fun _ h => absurd h (Nat.not_lt_zero _))
  simp [Go.Lib.occAt]
theorem index_ne (c : UInt8) (r : List UInt8) (h : c ≠ 0) (i : Nat) (hi : index r [0] = i) : index (c :: r) [0] = ((i + 1 : Nat) : Int) := by
  have hp : ([0] : List UInt8).isPrefixOf (c :: r) = false := by simp [List.isPrefixOf, Ne.symm h]
  rw [index, if_neg (by rw [hp]; decide), hi, if_neg (by rw [beq_iff_eq]; omega)]
  omega
theorem esc_k : ∀ (l : List UInt8), replaceK [0] [0, 255] (count l [0]) l = escL l
  | [] => by rw [Go.Lib.count_one]; rfl
  | c :: r => by
    have ih := esc_k r
    unfold escL
    by_cases h : c = 0
    · subst h
      rw [if_pos rfl, Go.Lib.count_cons_eq, Nat.add_comm, Go.Lib.replaceK_hit _ _ _ _ 0 (index_0 r)]
      show [] ++ [0, 255] ++ replaceK [0] [0, 255] (count r [0]) r = _
      rw [ih]; rfl
    · rw [if_neg h, Go.Lib.count_cons_ne _ _ _ h]
      cases hk : count r [0] with
      | zero => rw [hk] at ih; rw [← ih]; rfl
      | succ k =>
        obtain ⟨i, hi⟩ := Go.Lib.index_of_count (s := r) (old := [0]) (by omega)
        rw [Go.Lib.replaceK_hit _ _ _ _ (i + 1) (index_ne c r h i hi)]
        rw [hk, Go.Lib.replaceK_hit _ _ _ _ i hi] at ih
        rw [← ih]
        show c :: r.take i ++ [0, 255] ++ replaceK [0] [0, 255] k ((c :: r).drop (i + 1 + 1)) = _
        rfl
theorem esc_eq (l : List UInt8) : esc l = escL l := by
  unfold esc replaceAll Go.Lib.replace
  rw [if_neg (by decide)]
  unfold Go.Lib.replaceNum
  rw [if_pos (Or.inl (by decide))]
  exact esc_k l
end K
end Go.Proofs.YtfadnhihcobclaaDoor
