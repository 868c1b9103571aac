/- Plain: binds patched; the map of names' places. -/
import Derived.Test.YtohdifffdgoaaaaDoorVCheckB
namespace Go.Proofs.YtohdifffdgoaaaaDoor
open Go.RowKit Go.Maps
namespace V
/-- the last place of a name -/
def lastIdx (l : List (List UInt8)) (x : List UInt8) : Option Nat := l.zipIdx.foldl (fun acc p => if p.1 = x then some p.2 else acc) none
theorem lastIdx_snoc (l : List (List UInt8)) (y x : List UInt8) : lastIdx (l ++ [y]) x = if y = x then some l.length else lastIdx l x := by
  simp [lastIdx, List.zipIdx_append]
theorem lastIdx_lt : ∀ (n : Nat) (l : List (List UInt8)) (x : List UInt8) (i : Nat), l.length = n → lastIdx l x = some i → i < l.length ∧ l[i]? = some x := by
  intro n
  induction n with
  | zero =>
    intro l x i hl h
    rw [List.eq_nil_of_length_eq_zero hl] at h
    simp [lastIdx] at h
  | succ n ih =>
    intro l x i hl h
    rcases List.eq_nil_or_concat l with rfl | ⟨r, y, rfl⟩
    · simp at hl
    · rw [List.concat_eq_append] at *
      rw [lastIdx_snoc] at h
      have hr : r.length = n := by simpa using hl
      by_cases hy : y = x
      · rw [if_pos hy] at h
        obtain rfl := Option.some.inj h
        exact ⟨by simp, by simp [hy]⟩
      · rw [if_neg hy] at h
        obtain ⟨h1, h2⟩ := ih r x i hr h
        exact ⟨by simp; omega, by rw [List.getElem?_append_left h1]; exact h2⟩
/-- the map of names' places -/
def idxD (l : List (List UInt8)) : DataW Unit := l.zipIdx.foldl (fun D p => D.put (.string p.1) (.lit (.int .i64 p.2))) (.map [])
theorem idxD_snoc (l : List (List UInt8)) (x : List UInt8) : idxD (l ++ [x]) = (idxD l).put (.string x) (.lit (.int .i64 l.length)) := by
  simp [idxD, List.zipIdx_append]
theorem idx_at (x : List UInt8) : ∀ (l : List (List UInt8 × Nat)) (D : DataW Unit) (acc : Option Nat), IsMap D → Maps.has D (.string x) = acc.isSome → D.atKey (.string x) (.lit (.int .i64 0)) = .lit (.int .i64 ((acc.getD 0 : Nat) : Int)) →
    Maps.has (l.foldl (fun D p => D.put (.string p.1) (.lit (.int .i64 p.2))) D) (.string x) = (l.foldl (fun acc p => if p.1 = x then some p.2 else acc) acc).isSome ∧
    (l.foldl (fun D p => D.put (.string p.1) (.lit (.int .i64 p.2))) D).atKey (.string x) (.lit (.int .i64 0)) = .lit (.int .i64 (((l.foldl (fun acc p => if p.1 = x then some p.2 else acc) acc).getD 0 : Nat) : Int))
  | [], D, acc, _, h1, h2 => ⟨h1, h2⟩
  | p :: l, D, acc, hD, h1, h2 => by
    rw [List.foldl_cons, List.foldl_cons]
    by_cases h : p.1 = x
    · rw [if_pos h]
      subst h
      exact idx_at p.1 l _ _ (hD.put _ _) (by rw [has_put_same hD (by first | trivial | exact ⟨_, rfl⟩ | simp)]; rfl) (by rw [atKey_put_same hD (by first | trivial | exact ⟨_, rfl⟩ | simp)]; rfl)
    · rw [if_neg h]
      have hne : Lit.string x ≠ Lit.string p.1 := fun e => h (Lit.string.inj e).symm
      exact idx_at x l _ _ (hD.put _ _) (by rw [has_put_other hne]; exact h1) (by rw [atKey_put_other hne]; exact h2)
theorem idxD_has (l : List (List UInt8)) (x : List UInt8) : Maps.has (idxD l) (.string x) = (lastIdx l x).isSome := (idx_at x l.zipIdx (.map []) none ⟨_, rfl⟩ rfl rfl).1
theorem idxD_at (l : List (List UInt8)) (x : List UInt8) : (idxD l).atKey (.string x) (.lit (.int .i64 0)) = .lit (.int .i64 (((lastIdx l x).getD 0 : Nat) : Int)) := (idx_at x l.zipIdx (.map []) none ⟨_, rfl⟩ rfl rfl).2
/-- binds patched, the places of names known -/
def putL (names : List (List UInt8)) : List Bind → List Bind → List Bind × Int
  | os, [] => (os, 0)
  | os, b :: r => match lastIdx names b.nm with
    | none => ([], 100)
    | some i => if (os[i]?.map fun o => o.v.k) = some b.v.k then putL names (os.set i b) r else ([], 90)
def put (vars patch : List Bind) : List Bind × Int :=
  if checkB vars ≠ 0 then ([], checkB vars) else if checkB patch ≠ 0 then ([], checkB patch) else putL (vars.map Bind.nm) vars patch
theorem rowB_got {bs : List Bind} {k : Nat} {b : Bind} (h : bs[k]? = some b) : (rowB bs)[k * 5]? = some (.string b.name) ∧ (rowB bs)[k * 5 + 1]? = some (.int .u8 b.v.k) ∧ (rowB bs)[k * 5 + 2]? = some (.int .i64 b.v.n) ∧ (rowB bs)[k * 5 + 3]? = some (.bool b.v.b) ∧ (rowB bs)[k * 5 + 4]? = some (.string b.v.s) := by
  obtain ⟨hk, rfl⟩ := List.getElem?_eq_some_iff.1 h
  exact rowB_get bs k hk
theorem rowB_set : ∀ (os : List Bind) (i : Nat) (b : Bind), i < os.length → rowB (os.set i b) = (((((rowB os).set (i * 5) (.string b.name)).set (i * 5 + 1) (.int .u8 b.v.k)).set (i * 5 + 2) (.int .i64 b.v.n)).set (i * 5 + 3) (.bool b.v.b)).set (i * 5 + 4) (.string b.v.s)
  | p :: r, 0, b, _ => rfl
  | p :: r, i + 1, b, h => by
    have ih := rowB_set r i b (by simpa using h)
    rw [List.set_cons_succ]
    unfold rowB
    rw [ih]
    simp only [Bind.cells, List.cons_append, List.nil_append]
    rw [show (i + 1) * 5 = i * 5 + 1 + 1 + 1 + 1 + 1 by omega, show i * 5 + 1 + 1 + 1 + 1 + 1 + 1 = (i * 5 + 1) + 1 + 1 + 1 + 1 + 1 by omega, show i * 5 + 1 + 1 + 1 + 1 + 1 + 2 = (i * 5 + 2) + 1 + 1 + 1 + 1 + 1 by omega, show i * 5 + 1 + 1 + 1 + 1 + 1 + 3 = (i * 5 + 3) + 1 + 1 + 1 + 1 + 1 by omega, show i * 5 + 1 + 1 + 1 + 1 + 1 + 4 = (i * 5 + 4) + 1 + 1 + 1 + 1 + 1 by omega]
    simp only [List.set_cons_succ]
end V
open V
theorem BOwn_stored {B g cap : Nat} {os : List Bind} {w : World} (h : BOwn B os (.slice (some ⟨g, 0, none⟩) os.length cap) w) (i : Nat) (b : Bind) (hi : i < os.length) :
    BOwn B (os.set i b) (.slice (some ⟨g, 0, none⟩) os.length cap) (((((w.setCell ⟨g, i * 5, none⟩ (.string b.name)).setCell ⟨g, i * 5 + 1, none⟩ (.int .u8 b.v.k)).setCell ⟨g, i * 5 + 2, none⟩ (.int .i64 b.v.n)).setCell ⟨g, i * 5 + 3, none⟩ (.bool b.v.b)).setCell ⟨g, i * 5 + 4, none⟩ (.string b.v.s)) := by
  unfold BOwn at *
  rw [List.length_set, rowB_set os i b hi]
  exact (World.ownsRow.stored (World.ownsRow.stored (World.ownsRow.stored (World.ownsRow.stored (World.ownsRow.stored h (i * 5) _).1 (i * 5 + 1) _).1 (i * 5 + 2) _).1 (i * 5 + 3) _).1 (i * 5 + 4) _).1
end Go.Proofs.YtohdifffdgoaaaaDoor
