/- Plain: what stands behind all that begins so. No program in sight. Written by hand for this claim. -/
import Derived.Lib.Strings
import Derived.RowKit
namespace Go.Proofs.YtfadnhihcobclaaDoor
namespace K

/-- behind the last bytes that are no 255 -/
def stripR (l : List UInt8) : List UInt8 := l.reverse.dropWhile (fun c => decide (c = 255))
def afterR : List UInt8 → List UInt8
  | [] => []
  | c :: r => r.reverse ++ [c + 1]
def afterL (l : List UInt8) : List UInt8 := afterR (stripR l)

theorem strip_snoc (l : List UInt8) : stripR (l ++ [255]) = stripR l := by simp [stripR]
theorem strip_stop (l : List UInt8) (c : UInt8) (h : c ≠ 255) : stripR (l ++ [c]) = c :: l.reverse := by simp [stripR, h]
theorem strip_nil : stripR [] = [] := rfl
theorem after_stop (l : List UInt8) (c : UInt8) (h : c ≠ 255) : afterL (l ++ [c]) = l ++ [c + 1] := by
  unfold afterL; rw [strip_stop l c h]; simp [afterR]
/-- nothing stands behind: all bytes are 255 -/
theorem after_nil : ∀ (n : Nat) (l : List UInt8), l.length ≤ n → afterL l = [] → ∀ c ∈ l, c = 255 := by
  intro n
  induction n with
  | zero => intro l h _ c hc; rw [List.eq_nil_of_length_eq_zero (by omega : l.length = 0)] at hc; cases hc
  | succ n ih =>
    intro l h he c hc
    rcases List.eq_nil_or_concat l with rfl | ⟨r, x, rfl⟩
    · cases hc
    · rw [List.concat_eq_append] at *
      by_cases hx : x = 255
      · subst hx
        unfold afterL at he
        rw [strip_snoc] at he
        rw [List.mem_append] at hc
        rcases hc with hc | hc
        · exact ih r (by simp at h; omega) he c hc
        · simpa using hc
      · rw [after_stop r x hx] at he
        simp at he
/-- else: what begins so, up to its end -/
theorem after_some : ∀ (n : Nat) (l : List UInt8), l.length ≤ n → afterL l ≠ [] → ∃ (r : List UInt8) (x : UInt8) (k : Nat), x ≠ 255 ∧ l = r ++ x :: List.replicate k 255 ∧ afterL l = r ++ [x + 1] := by
  intro n
  induction n with
  | zero => intro l h he; rw [List.eq_nil_of_length_eq_zero (by omega : l.length = 0)] at he; exact absurd rfl he
  | succ n ih =>
    intro l h he
    rcases List.eq_nil_or_concat l with rfl | ⟨r, x, rfl⟩
    · exact absurd rfl he
    · rw [List.concat_eq_append] at *
      by_cases hx : x = 255
      · subst hx
        have e : afterL (r ++ [255]) = afterL r := by unfold afterL; rw [strip_snoc]
        rw [e] at he ⊢
        obtain ⟨r', x', k, h1, h2, h3⟩ := ih r (by simp at h; omega) he
        refine ⟨r', x', k + 1, h1, ?_, h3⟩
        conv => lhs; rw [h2]
        rw [List.replicate_succ']
        simp
      · exact ⟨r, x, 0, hx, by simp, after_stop r x hx⟩
end K
end Go.Proofs.YtfadnhihcobclaaDoor
