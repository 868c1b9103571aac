/- Plain: the record of bytes. No program in sight. -/
import Derived.Test.YtfadnhihcobclaaDoorKPlainI
namespace Go.Proofs.YtfadnhihcobclaaDoor
namespace K
/-- the number that stands in groups of seven bits, the lowest first, in at most so many bytes; of how many bytes -/
def sevF : Nat → List UInt8 → Option (Nat × Nat)
  | 0, _ => none
  | _ + 1, [] => none
  | f + 1, c :: r => if f = 0 ∧ 1 < c.toNat then none else if c.toNat < 128 then some (c.toNat, 1) else (sevF f r).map fun p => (c.toNat - 128 + 128 * p.1, p.2 + 1)
theorem sevF_len : ∀ (f : Nat) (l : List UInt8) (n u : Nat), sevF f l = some (n, u) → 1 ≤ u ∧ u ≤ l.length ∧ u ≤ f
  | 0, _, _, _, h => by simp [sevF] at h
  | _ + 1, [], _, _, h => by simp [sevF] at h
  | f + 1, c :: r, n, u, h => by
    rw [sevF] at h
    split at h
    · cases h
    · split at h
      · simp only [Option.some.injEq, Prod.mk.injEq] at h
        simp only [List.length_cons]; omega
      · obtain ⟨q, hq, he⟩ := Option.map_eq_some_iff.1 h
        have := sevF_len f r q.1 q.2 hq
        simp only [Prod.mk.injEq] at he
        simp only [List.length_cons]; omega
theorem sevF_lt : ∀ (f : Nat) (l : List UInt8) (n u : Nat), sevF (f + 1) l = some (n, u) → n < 2 * 128 ^ f
  | _, [], _, _, h => by simp [sevF] at h
  | f, c :: r, n, u, h => by
    rw [sevF] at h
    split at h
    · cases h
    · rename_i h1
      split at h
      · rename_i h2
        simp only [Option.some.injEq, Prod.mk.injEq] at h
        cases f with
        | zero => simp at h1; simp; omega
        | succ f =>
          have : 1 ≤ 128 ^ f := Nat.one_le_pow _ _ (by decide)
          rw [Nat.pow_succ]; omega
      · obtain ⟨q, hq, he⟩ := Option.map_eq_some_iff.1 h
        simp only [Prod.mk.injEq] at he
        cases f with
        | zero => simp [sevF] at hq
        | succ f =>
          have := sevF_lt f r q.1 q.2 hq
          have hc := c.toNat_lt
          rw [Nat.pow_succ]; omega
/-- a count taken off bytes, written with no more bytes than needed: the count, what is left -/
def uvar (l : List UInt8) : Option (Nat × List UInt8) := match sevF 10 l with
  | none => none
  | some p => if 1 < p.2 ∧ l[p.2 - 1]? = some 0 then none else some (p.1, l.drop p.2)
theorem uvar_len {l r : List UInt8} {n : Nat} (h : uvar l = some (n, r)) : r.length < l.length ∧ n < 18446744073709551616 := by
  unfold uvar at h
  split at h
  · cases h
  · rename_i p hp
    split at h
    · cases h
    · simp only [Option.some.injEq, Prod.mk.injEq] at h
      have h1 := sevF_len 10 l p.1 p.2 hp
      have h2 := sevF_lt 9 l p.1 p.2 hp
      rw [show 2 * 128 ^ 9 = 18446744073709551616 from rfl] at h2
      rw [← h.2, ← h.1, List.length_drop]; omega
/-- a number whose sign stands in its lowest bit -/
def unzig (n : Nat) : Int := if n % 2 = 0 then ((n / 2 : Nat) : Int) else -((n / 2 : Nat) : Int) - 1
/-- what stands at the head of bytes -/
inductive Hd where
  | bad (e : Int)
  | num (n : Int) (r : List UInt8)
  | text (t r : List UInt8)
  | list (c : Nat) (r : List UInt8)
/-- .. the kind (k) told -/
def hdK (d k n : Nat) (r : List UInt8) : Hd := if k = 1 then .num (unzig n) r else if k = 2 then (if r.length < n then .bad 4 else .text (r.take n) (r.drop n)) else if k = 3 then (if d = 16 then .bad 84 else .list n r) else .bad 4
def hd (d : Nat) : List UInt8 → Hd
  | [] => .bad 4
  | k :: l => match uvar l with
    | none => .bad 4
    | some p => hdK d k.toNat p.1 p.2
def Hd.rest : Hd → List UInt8
  | .bad _ => []
  | .num _ r => r
  | .text _ r => r
  | .list _ r => r
theorem hdK_len (d k n : Nat) (r : List UInt8) : (hdK d k n r).rest.length ≤ r.length := by
  unfold hdK
  repeat' split
  all_goals simp [Hd.rest]
theorem hd_len (d : Nat) : ∀ (l : List UInt8), l ≠ [] → (hd d l).rest.length < l.length
  | [], h => absurd rfl h
  | k :: l, _ => by
    rw [hd]
    cases hp : uvar l with
    | none => simp [Hd.rest]
    | some p =>
      have h1 := uvar_len (n := p.1) (r := p.2) hp
      have h2 := hdK_len d k.toNat p.1 p.2
      simp only [List.length_cons]; omega
/-- what is read: an error, or items and what is left -/
inductive Rd where
  | bad (e : Int)
  | ok (l : Items) (r : List UInt8)
def Items.app : Items → Items → Items
  | .nil, m => m
  | .cons k n s l r, m => .cons k n s l (r.app m)
theorem Items.app_nil : ∀ (l : Items), l.app .nil = l
  | .nil => rfl
  | .cons k n s l r => by rw [Items.app, Items.app_nil r]
theorem Items.app_app : ∀ (a b c : Items), (a.app b).app c = a.app (b.app c)
  | .nil, _, _ => rfl
  | .cons k n s l r, b, c => by simp only [Items.app, Items.app_app r b c]
theorem Items.app_length : ∀ (a b : Items), (a.app b).length = a.length + b.length
  | .nil, b => by simp [Items.app, Items.length]
  | .cons k n s l r, b => by simp only [Items.app, Items.length, Items.app_length r b]; omega
def Rd.app (a : Items) : Rd → Rd
  | .bad e => .bad e
  | .ok l r => .ok (a.app l) r
theorem Rd.app_nil : ∀ (x : Rd), x.app .nil = x
  | .bad _ => rfl
  | .ok _ _ => rfl
theorem Rd.app_app (a b : Items) : ∀ (x : Rd), (x.app b).app a = x.app (a.app b)
  | .bad _ => rfl
  | .ok l r => by simp only [Rd.app, Items.app_app]
abbrev Items.one (k : Nat) (n : Int) (s : ByteArray) (l : Items) : Items := .cons k n s l .nil
/-- so many items that stand at the head of bytes, in a list so deep -/
def rdF : Nat → Nat → Nat → List UInt8 → Rd
  | _, 0, _, l => .ok .nil l
  | 0, _ + 1, _, _ => .bad 4
  | f + 1, c + 1, d, l => match hd d l with
    | .bad e => .bad e
    | .num n r => (rdF f c d r).app (.one 1 n ⟨#[]⟩ .nil)
    | .text t r => (rdF f c d r).app (.one 2 0 ⟨t.toArray⟩ .nil)
    | .list m r => match rdF f m (d + 1) r with
      | .bad e => .bad e
      | .ok x r' => (rdF f c d r').app (.one 3 0 ⟨#[]⟩ x)
theorem rdF_len : ∀ (f c d : Nat) (l : List UInt8) (x : Items) (r : List UInt8), rdF f c d l = .ok x r → r.length ≤ l.length
  | 0, 0, _, l, x, r, h => by simp only [rdF, Rd.ok.injEq] at h; rw [h.2]; exact Nat.le_refl _
  | _ + 1, 0, _, l, x, r, h => by simp only [rdF, Rd.ok.injEq] at h; rw [h.2]; exact Nat.le_refl _
  | 0, c + 1, _, _, _, _, h => by simp [rdF] at h
  | f + 1, c + 1, d, l, x, r, h => by
    have hl : (hd d l).rest.length ≤ l.length := by
      cases l with
      | nil => simp [hd, Hd.rest]
      | cons a b => exact Nat.le_of_lt (hd_len d (a :: b) (by simp))
    have app : ∀ (a : Items) (y : Rd), y.app a = .ok x r → ∃ z, y = .ok z r := fun a y hy => by
      cases y with
      | bad e => cases hy
      | ok z q => simp only [Rd.app, Rd.ok.injEq] at hy; rw [hy.2]; exact ⟨z, rfl⟩
    rw [rdF] at h
    split at h
    · cases h
    · rename_i n q hq
      rw [hq] at hl
      obtain ⟨z, hz⟩ := app _ _ h
      exact Nat.le_trans (rdF_len f c d q z r hz) hl
    · rename_i n q hq
      rw [hq] at hl
      obtain ⟨z, hz⟩ := app _ _ h
      exact Nat.le_trans (rdF_len f c d q z r hz) hl
    · rename_i m q hq
      rw [hq] at hl
      split at h
      · cases h
      · rename_i y q' hy
        obtain ⟨z, hz⟩ := app _ _ h
        exact Nat.le_trans (rdF_len f c d q' z r hz) (Nat.le_trans (rdF_len f m (d + 1) q y q' hy) hl)
theorem rdF_fuel : ∀ (f g c d : Nat) (l : List UInt8), l.length < f → l.length < g → rdF f c d l = rdF g c d l
  | 0, _, _, _, l, h, _ => absurd h (Nat.not_lt_zero _)
  | _, 0, _, _, l, _, h => absurd h (Nat.not_lt_zero _)
  | _ + 1, _ + 1, 0, _, _, _, _ => rfl
  | f + 1, g + 1, c + 1, d, l, h1, h2 => by
    cases l with
    | nil => rfl
    | cons a b =>
      have hl := hd_len d (a :: b) (by simp)
      have ih := fun c d (r : List UInt8) (hr : r.length < (a :: b).length) => rdF_fuel f g c d r (by omega) (by omega)
      rw [rdF, rdF]
      split
      · rfl
      · rename_i n q hq
        rw [hq] at hl
        rw [ih _ _ q hl]
      · rename_i n q hq
        rw [hq] at hl
        rw [ih _ _ q hl]
      · rename_i m q hq
        rw [hq] at hl
        rw [ih _ _ q hl]
        split
        · rfl
        · rename_i y q' hy
          rw [ih _ _ q' (Nat.lt_of_le_of_lt (rdF_len g m (d + 1) q y q' hy) hl)]
def rd (c d : Nat) (l : List UInt8) : Rd := rdF (l.length + 1) c d l
theorem rd_zero (d : Nat) (l : List UInt8) : rd 0 d l = .ok .nil l := by unfold rd; rw [rdF]
theorem rd_len {c d : Nat} {l : List UInt8} {x : Items} {r : List UInt8} (h : rd c d l = .ok x r) : r.length ≤ l.length := rdF_len _ _ _ _ _ _ h
/-- one item and those behind it, R -/
def step (d : Nat) (R : List UInt8 → Rd) (l : List UInt8) : Rd := match hd d l with
  | .bad e => .bad e
  | .num n r => (R r).app (.one 1 n ⟨#[]⟩ .nil)
  | .text t r => (R r).app (.one 2 0 ⟨t.toArray⟩ .nil)
  | .list m r => match rd m (d + 1) r with
    | .bad e => .bad e
    | .ok x r' => (R r').app (.one 3 0 ⟨#[]⟩ x)
theorem step_eq {d : Nat} {R S : List UInt8 → Rd} {l : List UInt8} (h : ∀ r, r.length < l.length → R r = S r) : step d R l = step d S l := by
  unfold step
  cases l with
  | nil => rfl
  | cons a b =>
    have hl := hd_len d (a :: b) (by simp)
    split
    · rfl
    · rename_i n q hq
      rw [hq] at hl
      rw [h q hl]
    · rename_i n q hq
      rw [hq] at hl
      rw [h q hl]
    · rename_i m q hq
      rw [hq] at hl
      split
      · rfl
      · rename_i y q' hy
        rw [h q' (Nat.lt_of_le_of_lt (rd_len hy) hl)]
theorem rd_succ (c d : Nat) (l : List UInt8) : rd (c + 1) d l = step d (rd c d) l := by
  unfold rd step
  cases l with
  | nil => rfl
  | cons a b =>
    have hl := hd_len d (a :: b) (by simp)
    rw [rdF]
    split
    · rfl
    · rename_i n q hq
      rw [hq] at hl
      rw [rdF_fuel _ (q.length + 1) _ _ q hl (Nat.lt_succ_self _)]
    · rename_i n q hq
      rw [hq] at hl
      rw [rdF_fuel _ (q.length + 1) _ _ q hl (Nat.lt_succ_self _)]
    · rename_i m q hq
      rw [hq] at hl
      rw [rdF_fuel _ (q.length + 1) _ _ q hl (Nat.lt_succ_self _)]
      unfold rd
      split
      · rfl
      · rename_i y q' hy
        have := rdF_len _ _ _ _ _ _ hy
        rw [rdF_fuel _ (q'.length + 1) _ _ q' (Nat.lt_of_le_of_lt this hl) (Nat.lt_succ_self _)]
/-- all items of bytes -/
def raF : Nat → List UInt8 → Rd
  | _, [] => .ok .nil []
  | 0, _ :: _ => .bad 4
  | f + 1, a :: b => step 0 (raF f) (a :: b)
theorem raF_fuel : ∀ (f g : Nat) (l : List UInt8), l.length ≤ f → l.length ≤ g → raF f l = raF g l
  | 0, 0, [], _, _ => rfl
  | 0, _ + 1, [], _, _ => rfl
  | _ + 1, 0, [], _, _ => rfl
  | _ + 1, _ + 1, [], _, _ => rfl
  | 0, _, _ :: _, h, _ => by simp at h
  | _ + 1, 0, _ :: _, _, h => by simp at h
  | f + 1, g + 1, a :: b, h1, h2 => by
    rw [raF, raF]
    exact step_eq fun r hr => raF_fuel f g r (by omega) (by omega)
def ra (l : List UInt8) : Rd := raF l.length l
theorem ra_nil : ra [] = .ok .nil [] := rfl
theorem ra_cons (a : UInt8) (b : List UInt8) : ra (a :: b) = step 0 ra (a :: b) := by
  unfold ra
  rw [List.length_cons, raF]
  exact step_eq fun r hr => raF_fuel _ _ r (by simp only [List.length_cons] at hr; omega) (Nat.le_refl _)
/-- more items than bytes: however many -/
theorem rd_many : ∀ (n : Nat) (l : List UInt8), l.length ≤ n → ∀ (c c' d : Nat), l.length < c → l.length < c' → rd c d l = rd c' d l
  | n, l, hn, 0, _, _, h, _ => absurd h (Nat.not_lt_zero _)
  | n, l, hn, _, 0, _, _, h => absurd h (Nat.not_lt_zero _)
  | 0, l, hn, c + 1, c' + 1, d, _, _ => by
    rw [rd_succ, rd_succ]
    exact step_eq fun r hr => by omega
  | n + 1, l, hn, c + 1, c' + 1, d, h1, h2 => by
    rw [rd_succ, rd_succ]
    exact step_eq fun r hr => rd_many n r (by omega) c c' d (by omega) (by omega)
/-- the record's items and the error -/
def decode (l : List UInt8) : Items × Int := if 100000 < l.length then (.nil, 3) else match ra l with
  | .bad e => (.nil, e)
  | .ok x _ => (x, 0)
end K
end Go.Proofs.YtfadnhihcobclaaDoor
