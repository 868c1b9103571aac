/- Plain: a record is read back, and what is read is written so. No program in sight. -/
import Derived.Test.YtfadnhihcobclaaDoorKPlainD
namespace Go.Proofs.YtfadnhihcobclaaDoor
namespace K
theorem ofNat_lt (n : Nat) (h : n < 256) : (UInt8.ofNat n).toNat = n := by rw [UInt8.toNat_ofNat']; omega
theorem u8ext {a b : UInt8} (h : a.toNat = b.toNat) : a = b := UInt8.toNat_inj.1 h
theorem cntF_ne (f n : Nat) : 1 ≤ (cntF (f + 1) n).length := by
  unfold cntF
  split <;> simp
theorem sevF_cnt : ∀ (f n : Nat) (r : List UInt8), n < 2 * 128 ^ f → sevF (f + 1) (cntF (f + 1) n ++ r) = some (n, (cntF (f + 1) n).length)
  | 0, n, r, h => by
    have hn : n < 2 := by simpa using h
    unfold cntF
    rw [if_pos (by omega)]
    show sevF 1 (UInt8.ofNat n :: r) = _
    rw [sevF, ofNat_lt n (by omega), if_neg (by omega), if_pos (by omega)]
    rfl
  | f + 1, n, r, h => by
    unfold cntF
    by_cases h1 : n < 128
    · rw [if_pos h1]
      show sevF (f + 1 + 1) (UInt8.ofNat n :: r) = _
      rw [sevF, ofNat_lt n (by omega), if_neg (by omega), if_pos h1]
      rfl
    · rw [if_neg h1]
      show sevF (f + 1 + 1) (UInt8.ofNat (n % 128 + 128) :: (cntF (f + 1) (n / 128) ++ r)) = _
      rw [sevF, ofNat_lt _ (by omega), if_neg (by omega), if_neg (by omega), sevF_cnt f (n / 128) r (by rw [Nat.pow_succ] at h; omega)]
      simp only [Option.map_some, List.length_cons, Option.some.injEq, Prod.mk.injEq]
      exact ⟨by omega, trivial⟩
theorem cntF_last : ∀ (f n : Nat) (r : List UInt8), n < 2 * 128 ^ f → 1 ≤ n → (cntF (f + 1) n ++ r)[(cntF (f + 1) n).length - 1]? ≠ some 0
  | f, n, r, h, h0 => by
    unfold cntF
    by_cases h1 : n < 128
    · rw [if_pos h1]
      simp only [List.cons_append, List.nil_append, List.length_cons, List.length_nil, Nat.zero_add, Nat.sub_self, List.getElem?_cons_zero]
      intro e
      have e2 := congrArg UInt8.toNat (Option.some.inj e)
      rw [ofNat_lt n (by omega)] at e2
      exact absurd e2 (by simp; omega)
    · rw [if_neg h1]
      cases f with
      | zero => simp at h; omega
      | succ f =>
        have hl := cntF_ne f (n / 128)
        have ih := cntF_last f (n / 128) r (by rw [Nat.pow_succ] at h; omega) (by omega)
        obtain ⟨j, hj⟩ : ∃ j, (cntF (f + 1) (n / 128)).length = j + 1 := ⟨_, (Nat.succ_pred_eq_of_pos hl).symm⟩
        rw [hj] at ih
        rw [List.length_cons, hj, List.cons_append, Nat.add_sub_cancel, List.getElem?_cons_succ]
        exact ih
theorem uvar_cnt (n : Nat) (r : List UInt8) (h : n < 18446744073709551616) : uvar (cnt n ++ r) = some (n, r) := by
  have h' : n < 2 * 128 ^ 9 := h
  unfold uvar cnt
  rw [sevF_cnt 9 n r h']
  simp only
  rw [if_neg]
  · rw [List.drop_left]
  · intro ⟨h1, h2⟩
    by_cases h0 : 1 ≤ n
    · exact cntF_last 9 n r h' h0 h2
    · have : n = 0 := by omega
      subst this
      simp [cntF] at h1
theorem sevF_back : ∀ (f : Nat) (l : List UInt8) (n u : Nat), sevF f l = some (n, u) → l[u - 1]? ≠ some 0 → 1 ≤ n ∧ l = cntF f n ++ l.drop u
  | 0, _, _, _, h, _ => by simp [sevF] at h
  | _ + 1, [], _, _, h, _ => by simp [sevF] at h
  | f + 1, c :: r, n, u, h, hz => by
    rw [sevF] at h
    split at h
    · cases h
    · split at h
      · rename_i h1 h2
        simp only [Option.some.injEq, Prod.mk.injEq] at h
        obtain ⟨rfl, rfl⟩ := h
        simp only [Nat.sub_self, List.getElem?_cons_zero] at hz
        have hc : c.toNat ≠ 0 := fun e => hz (by rw [u8ext (a := c) (b := 0) (by rw [e]; rfl)])
        refine ⟨by omega, ?_⟩
        unfold cntF
        rw [if_pos h2]
        simp
      · rename_i h1 h2
        obtain ⟨q, hq, he⟩ := Option.map_eq_some_iff.1 h
        simp only [Prod.mk.injEq] at he
        have hq1 := sevF_len f r q.1 q.2 hq
        obtain ⟨rfl, rfl⟩ := he
        obtain ⟨j, hj⟩ : ∃ j, q.2 = j + 1 := ⟨_, (Nat.succ_pred_eq_of_pos hq1.1).symm⟩
        have hz' : r[q.2 - 1]? ≠ some 0 := by
          rw [hj, Nat.add_sub_cancel]
          rw [hj, Nat.add_sub_cancel, List.getElem?_cons_succ] at hz
          exact hz
        obtain ⟨g1, g2⟩ := sevF_back f r q.1 q.2 hq hz'
        have hc := c.toNat_lt
        refine ⟨by omega, ?_⟩
        unfold cntF
        rw [if_neg (by omega)]
        have e1 : UInt8.ofNat ((c.toNat - 128 + 128 * q.1) % 128 + 128) = c := u8ext (by rw [ofNat_lt _ (by omega)]; omega)
        have e2 : (c.toNat - 128 + 128 * q.1) / 128 = q.1 := by omega
        rw [e1, e2, List.drop_succ_cons, List.cons_append, ← g2]
theorem uvar_back {l r : List UInt8} {n : Nat} (h : uvar l = some (n, r)) : l = cnt n ++ r := by
  unfold uvar at h
  split at h
  · cases h
  · rename_i p hp
    split at h
    · cases h
    · rename_i hc
      simp only [Option.some.injEq, Prod.mk.injEq] at h
      obtain ⟨rfl, rfl⟩ := h
      have h1 := sevF_len 10 l p.1 p.2 hp
      by_cases hz : l[p.2 - 1]? = some 0
      · have hu : p.2 = 1 := by
          rcases Nat.lt_or_ge 1 p.2 with h2 | h2
          · exact absurd ⟨h2, hz⟩ hc
          · omega
        rw [hu] at hz ⊢
        cases l with
        | nil => simp at hz
        | cons c q =>
          simp only [Nat.sub_self, List.getElem?_cons_zero, Option.some.injEq] at hz
          subst hz
          have : p.1 = 0 := by
            have := hp
            rw [sevF] at this
            simp at this
            rw [← this]
          rw [this]
          rfl
      · exact (sevF_back 10 l p.1 p.2 hp hz).2
theorem zig_lt2 (n : Int) (h0 : -9223372036854775808 ≤ n) (h1 : n ≤ 9223372036854775807) : zig n < 18446744073709551616 := by
  unfold zig
  split <;> omega
theorem unzig_zig (n : Int) : unzig (zig n) = n := by
  unfold zig unzig
  split
  · rw [if_pos (by omega)]; omega
  · rw [if_neg (by omega)]; omega
theorem zig_unzig (m : Nat) : zig (unzig m) = m := by
  unfold zig unzig
  by_cases h : m % 2 = 0
  · rw [if_pos h, if_pos (by omega)]; omega
  · rw [if_neg h, if_neg (by omega)]; omega
theorem unzig_in (m : Nat) (h : m < 18446744073709551616) : -9223372036854775808 ≤ unzig m ∧ unzig m ≤ 9223372036854775807 := by
  unfold unzig
  split <;> omega
theorem ba_empty {s : ByteArray} (h : s.size = 0) : s = ⟨#[]⟩ := by
  cases s with
  | mk d => exact congrArg ByteArray.mk (Array.eq_empty_of_size_eq_zero h)
theorem len_nil {m : Items} (h : m.length = 0) : m = .nil := by
  cases m with
  | nil => rfl
  | cons k n s l r => simp [Items.length] at h
theorem ba_back (s : ByteArray) : (⟨s.data.toList.toArray⟩ : ByteArray) = s := by cases s; simp
theorem hd_cnt (d k n : Nat) (r : List UInt8) (hk : k < 256) (hn : n < 18446744073709551616) : hd d (UInt8.ofNat k :: (cnt n ++ r)) = hdK d k n r := by
  rw [hd, uvar_cnt n r hn, ofNat_lt k hk]
/-- what is written is read, whatever stands behind it -/
theorem read_enc : ∀ (l : Items) (d : Nat) (T : Nat → List UInt8 → Rd) (_ : ∀ j a b, T (j + 1) (a :: b) = step d (T j) (a :: b)) (r : List UInt8), l.may → (enc l d).2 = 0 → T l.length ((enc l d).1 ++ r) = (T 0 r).app l
  | .nil, d, T, hT, r, _, _ => by
    show T 0 ([] ++ r) = _
    rw [List.nil_append, Rd.app_nil]
  | .cons k n s m q, d, T, hT, r, hm, he => by
    obtain ⟨hk, hn0, hn1, hs, hml, hmm, hmq⟩ := hm
    rw [enc] at he
    split at he
    · rename_i ho
      have hq := read_enc q d T hT r hmq he
      rw [enc, if_pos ho]
      rw [Items.length, List.append_assoc]
      revert ho
      unfold one
      split
      · rename_i h1
        intro _
        obtain ⟨rfl, h2, h3⟩ := h1
        have es := ba_empty h2
        have em := len_nil h3
        subst es em
        simp only [List.cons_append]
        rw [hT, step, show (1 : UInt8) = UInt8.ofNat 1 from rfl, hd_cnt d 1 _ _ (by decide) (zig_lt2 n hn0 hn1), hdK, if_pos rfl, unzig_zig]
        simp only
        rw [hq, Rd.app_app]
        rfl
      · split
        · rename_i _ h1
          intro _
          obtain ⟨rfl, rfl, h3⟩ := h1
          have em := len_nil h3
          subst em
          have hsz : s.data.toList.length = s.size := Array.length_toList
          simp only [List.cons_append, List.append_assoc]
          rw [hT, step, show (2 : UInt8) = UInt8.ofNat 2 from rfl, hd_cnt d 2 _ _ (by decide) (by omega), hdK, if_neg (by decide), if_pos rfl, if_neg (by rw [List.length_append, hsz]; omega)]
          rw [← hsz, List.take_left, List.drop_left]
          simp only
          rw [ba_back, hq, Rd.app_app]
          rfl
        · split
          · rename_i _ _ h1
            obtain ⟨rfl, rfl, h3⟩ := h1
            have es := ba_empty h3
            subst es
            split
            · intro h; simp at h
            · rename_i hd16
              split
              · rename_i hi
                intro _
                have hin := read_enc m (d + 1) (fun j => rd j (d + 1)) (fun j a b => rd_succ j (d + 1) (a :: b)) ((enc q d).1 ++ r) hmm hi
                simp only [rd_zero, Rd.app, Items.app_nil] at hin
                simp only [List.cons_append, List.append_assoc]
                rw [hT, step, show (3 : UInt8) = UInt8.ofNat 3 from rfl, hd_cnt d 3 _ _ (by decide) (by omega), hdK, if_neg (by decide), if_neg (by decide), if_pos rfl, if_neg hd16]
                simp only
                rw [hin]
                simp only
                rw [hq, Rd.app_app]
                rfl
              · rename_i hi
                intro h
                exact absurd h hi
          · intro h; simp at h
    · rename_i ho
      exact absurd he ho
theorem ra_enc (l : Items) (hm : l.may) (he : (enc l 0).2 = 0) : ra (enc l 0).1 = .ok l [] := by
  have := read_enc l 0 (fun _ => ra) (fun _ a b => ra_cons a b) [] hm he
  simp only [List.append_nil, ra_nil, Rd.app, Items.app_nil] at this
  exact this
/-- these items are written as what has been read -/
def Good (d : Nat) (l : List UInt8) (x : Items) (r : List UInt8) : Prop := (enc x d).2 = 0 ∧ l = (enc x d).1 ++ r ∧ x.may ∧ x.room + 11 * r.length ≤ 11 * l.length
theorem cnt_pos (n : Nat) : 1 ≤ (cnt n).length := cntF_ne 9 n
theorem good_cons {d k : Nat} {n : Int} {s : ByteArray} {m y : Items} {l b r' r : List UInt8} (ho : one k n s m.length d (enc m (d + 1)) = (b, 0)) (hl : l = b ++ r') (hk : k < 256) (hn : -9223372036854775808 ≤ n ∧ n ≤ 9223372036854775807)
    (hs : s.size ≤ 140737488351232) (hm : m.may) (hml : m.length ≤ 9223372036854775807) (hroom : 11 + s.size + m.room + 11 * r'.length ≤ 11 * l.length) (hy : Good d r' y r) : Good d l (.cons k n s m y) r := by
  obtain ⟨h1, h2, h3, h4⟩ := hy
  unfold Good
  rw [enc, ho]
  simp only [if_true]
  refine ⟨h1, ?_, ⟨hk, hn.1, hn.2, hs, hml, hm, h3⟩, ?_⟩
  · rw [hl, List.append_assoc, ← h2]
  · simp only [Items.room]; omega
theorem app_ok {a : Items} {y : Rd} {x : Items} {r : List UInt8} (h : y.app a = .ok x r) : ∃ z, y = .ok z r ∧ x = a.app z := by
  cases y with
  | bad e => cases h
  | ok z q =>
    simp only [Rd.app, Rd.ok.injEq] at h
    exact ⟨z, by rw [h.2], h.1.symm⟩
theorem good_step {d : Nat} {R : List UInt8 → Rd} {l : List UInt8} (hlen : l.length ≤ 10000000000) (hR : ∀ r' x r, r'.length < l.length → R r' = .ok x r → Good d r' x r)
    (hrd : ∀ c r' x r, d ≠ 16 → r'.length < l.length → rd c (d + 1) r' = .ok x r → Good (d + 1) r' x r ∧ x.length = c) {x : Items} {r : List UInt8} (h : step d R l = .ok x r) : Good d l x r := by
  unfold step at h
  cases l with
  | nil => simp [hd] at h
  | cons a b =>
    have hl := hd_len d (a :: b) (by simp)
    rw [hd] at h hl
    cases hu : uvar b with
    | none => rw [hu] at h; simp at h
    | some p =>
      rw [hu] at h hl
      simp only at h hl
      obtain ⟨c, q⟩ := p
      have hb := uvar_back hu
      obtain ⟨hb1, hb2⟩ := uvar_len hu
      have hcp := cnt_pos c
      have hbl : b.length = (cnt c).length + q.length := by rw [hb, List.length_append]
      simp only at h hl
      unfold hdK at h hl
      by_cases k1 : a.toNat = 1
      · rw [if_pos k1] at h hl
        obtain ⟨z, hz, rfl⟩ := app_ok h
        have ha : a = 1 := u8ext (by rw [k1]; rfl)
        refine good_cons (b := 1 :: cnt c) (r' := q) ?_ ?_ (by decide) (unzig_in c hb2) (by show 0 ≤ _; omega) trivial (by simp [Items.length]) ?_ (hR q z r (by simp only [List.length_cons]; omega) hz)
        · unfold one; rw [if_pos ⟨rfl, rfl, rfl⟩, zig_unzig]
        · rw [ha, List.cons_append, ← hb]
        · simp only [Items.room, List.length_cons, show (⟨#[]⟩ : ByteArray).size = 0 from rfl]; omega
      · rw [if_neg k1] at h hl
        by_cases k2 : a.toNat = 2
        · rw [if_pos k2] at h hl
          by_cases hc : q.length < c
          · rw [if_pos hc] at h; cases h
          · rw [if_neg hc] at h hl
            obtain ⟨z, hz, rfl⟩ := app_ok h
            have ha : a = 2 := u8ext (by rw [k2]; rfl)
            have htl : (q.take c).length = c := by rw [List.length_take]; omega
            have hsz : (⟨(q.take c).toArray⟩ : ByteArray).size = c := by
              show (q.take c).toArray.size = c
              rw [List.size_toArray, htl]
            refine good_cons (b := 2 :: (cnt c ++ q.take c)) (r' := q.drop c) ?_ ?_ (by decide) (by decide) (by rw [hsz]; simp only [List.length_cons] at hlen; omega) trivial (by simp [Items.length]) ?_ (hR (q.drop c) z r (by simp only [List.length_cons, List.length_drop]; omega) hz)
            · unfold one; rw [if_neg (fun e => absurd e.1 (by decide)), if_pos ⟨rfl, rfl, rfl⟩, hsz]
            · rw [ha, List.cons_append, List.append_assoc, List.take_append_drop, ← hb]
            · simp only [Items.room, List.length_cons, List.length_drop, hsz]; omega
        · rw [if_neg k2] at h hl
          by_cases k3 : a.toNat = 3
          · rw [if_pos k3] at h hl
            by_cases hd16 : d = 16
            · rw [if_pos hd16] at h; cases h
            · rw [if_neg hd16] at h hl
              simp only at h
              split at h
              · cases h
              · rename_i y q' hy
                obtain ⟨z, hz, rfl⟩ := app_ok h
                have ha : a = 3 := u8ext (by rw [k3]; rfl)
                obtain ⟨⟨g1, g2, g3, g4⟩, g5⟩ := hrd c q y q' hd16 (by simp only [List.length_cons]; omega) hy
                have hyl := Items.room_length y
                refine good_cons (b := 3 :: (cnt c ++ (enc y (d + 1)).1)) (r' := q') ?_ ?_ (by decide) (by decide) (by show 0 ≤ _; omega) g3 (by simp only [List.length_cons] at hlen; omega) ?_ (hR q' z r (by have := rd_len hy; simp only [List.length_cons]; omega) hz)
                · unfold one; rw [if_neg (fun e => absurd e.1 (by decide)), if_neg (fun e => absurd e.1 (by decide)), if_pos ⟨rfl, rfl, rfl⟩, if_neg hd16, if_pos g1, g5]
                · rw [ha, List.cons_append, List.append_assoc, ← g2, ← hb]
                · simp only [List.length_cons, show (⟨#[]⟩ : ByteArray).size = 0 from rfl]; omega
          · rw [if_neg k3] at h; cases h
theorem good_nil (d : Nat) (l : List UInt8) : Good d l .nil l := ⟨rfl, rfl, trivial, by simp [Items.room]⟩
theorem app_one_length (k : Nat) (n : Int) (s : ByteArray) (m z : Items) : (Items.app (.one k n s m) z).length = z.length + 1 := rfl
theorem step_length {d : Nat} {R : List UInt8 → Rd} {l : List UInt8} {c : Nat} (hR : ∀ r' x r, r'.length < l.length → R r' = .ok x r → x.length = c) {x : Items} {r : List UInt8} (h : step d R l = .ok x r) : x.length = c + 1 := by
  unfold step at h
  cases l with
  | nil => simp [hd] at h
  | cons a b =>
    have hl := hd_len d (a :: b) (by simp)
    split at h
    · cases h
    · rename_i n q hq
      rw [hq] at hl
      obtain ⟨z, hz, rfl⟩ := app_ok h
      rw [app_one_length, hR q z r hl hz]
    · rename_i n q hq
      rw [hq] at hl
      obtain ⟨z, hz, rfl⟩ := app_ok h
      rw [app_one_length, hR q z r hl hz]
    · rename_i m q hq
      rw [hq] at hl
      split at h
      · cases h
      · rename_i y q' hy
        obtain ⟨z, hz, rfl⟩ := app_ok h
        rw [app_one_length, hR q' z r (Nat.lt_of_le_of_lt (rd_len hy) hl) hz]
theorem rd_length : ∀ (c d : Nat) (l : List UInt8) (x : Items) (r : List UInt8), rd c d l = .ok x r → x.length = c
  | 0, d, l, x, r, h => by
    rw [rd_zero] at h
    simp only [Rd.ok.injEq] at h
    rw [← h.1]; rfl
  | c + 1, d, l, x, r, h => by
    rw [rd_succ] at h
    exact step_length (fun r' x r _ h => rd_length c d r' x r h) h
theorem good_rd : ∀ (N : Nat) (l : List UInt8), l.length < N → l.length ≤ 10000000000 → ∀ (c d : Nat) (x : Items) (r : List UInt8), d ≤ 16 → rd c d l = .ok x r → Good d l x r
  | 0, l, h, _, _, _, _, _, _, _ => absurd h (Nat.not_lt_zero _)
  | N + 1, l, hN, hl, 0, d, x, r, hd, h => by
    rw [rd_zero] at h
    simp only [Rd.ok.injEq] at h
    obtain ⟨rfl, rfl⟩ := h
    exact good_nil _ _
  | N + 1, l, hN, hl, c + 1, d, x, r, hd, h => by
    rw [rd_succ] at h
    exact good_step hl (fun r' x r hr h => good_rd N r' (by omega) (by omega) c d x r hd h) (fun c r' x r h16 hr h => ⟨good_rd N r' (by omega) (by omega) c (d + 1) x r (by omega) h, rd_length _ _ _ _ _ h⟩) h
theorem good_ra : ∀ (N : Nat) (l : List UInt8), l.length < N → l.length ≤ 10000000000 → ∀ (x : Items) (r : List UInt8), ra l = .ok x r → Good 0 l x r
  | 0, l, h, _, _, _, _ => absurd h (Nat.not_lt_zero _)
  | N + 1, [], hN, hl, x, r, h => by
    rw [ra_nil] at h
    simp only [Rd.ok.injEq] at h
    obtain ⟨rfl, rfl⟩ := h
    exact good_nil _ _
  | N + 1, a :: b, hN, hl, x, r, h => by
    rw [ra_cons] at h
    exact good_step hl (fun r' x r hr h => good_ra N r' (by omega) (by omega) x r h) (fun c r' x r h16 hr h => ⟨good_rd _ r' (Nat.lt_succ_self _) (by omega) c 1 x r (by omega) h, rd_length _ _ _ _ _ h⟩) h
theorem step_rest {R : List UInt8 → Rd} {d : Nat} {l : List UInt8} (hR : ∀ r' x r, r'.length < l.length → R r' = .ok x r → r = []) {x : Items} {r : List UInt8} (h : step d R l = .ok x r) : r = [] := by
  unfold step at h
  cases l with
  | nil => simp [hd] at h
  | cons a b =>
    have hl := hd_len d (a :: b) (by simp)
    split at h
    · cases h
    · rename_i n q hq
      rw [hq] at hl
      obtain ⟨z, hz, _⟩ := app_ok h
      exact hR q z r hl hz
    · rename_i n q hq
      rw [hq] at hl
      obtain ⟨z, hz, _⟩ := app_ok h
      exact hR q z r hl hz
    · rename_i m q hq
      rw [hq] at hl
      split at h
      · cases h
      · rename_i y q' hy
        obtain ⟨z, hz, _⟩ := app_ok h
        exact hR q' z r (Nat.lt_of_le_of_lt (rd_len hy) hl) hz
theorem ra_rest : ∀ (N : Nat) (l : List UInt8), l.length < N → ∀ (x : Items) (r : List UInt8), ra l = .ok x r → r = []
  | 0, l, h, _, _, _ => absurd h (Nat.not_lt_zero _)
  | N + 1, [], hN, x, r, h => by
    rw [ra_nil] at h
    simp only [Rd.ok.injEq] at h
    exact h.2.symm
  | N + 1, a :: b, hN, x, r, h => by
    rw [ra_cons] at h
    exact step_rest (fun r' x r hr h => ra_rest N r' (by omega) x r h) h
theorem hd_bad {d : Nat} {l : List UInt8} {e : Int} (h : hd d l = .bad e) : e ≠ 0 := by
  cases l with
  | nil => simp only [hd, Hd.bad.injEq] at h; omega
  | cons a b =>
    rw [hd] at h
    cases hu : uvar b with
    | none => rw [hu] at h; simp only [Hd.bad.injEq] at h; omega
    | some p =>
      rw [hu] at h
      simp only [hdK] at h
      repeat' split at h
      all_goals first | (simp only [Hd.bad.injEq] at h; omega) | cases h
theorem app_bad {a : Items} {y : Rd} {e : Int} (h : y.app a = .bad e) : y = .bad e := by
  cases y with
  | bad e' => exact h
  | ok z q => cases h
theorem step_bad {R : List UInt8 → Rd} {d : Nat} {l : List UInt8} {e : Int} (hR : ∀ r' e, r'.length < l.length → R r' = .bad e → e ≠ 0) (hrd : ∀ c r' e, r'.length < l.length → rd c (d + 1) r' = .bad e → e ≠ 0) (h : step d R l = .bad e) : e ≠ 0 := by
  unfold step at h
  split at h
  · rename_i e' he
    simp only [Rd.bad.injEq] at h
    rw [← h]; exact hd_bad he
  · rename_i n q hq
    cases l with
    | nil => simp [hd] at hq
    | cons a b =>
      have hl := hd_len d (a :: b) (by simp)
      rw [hq] at hl
      exact hR q e hl (app_bad h)
  · rename_i n q hq
    cases l with
    | nil => simp [hd] at hq
    | cons a b =>
      have hl := hd_len d (a :: b) (by simp)
      rw [hq] at hl
      exact hR q e hl (app_bad h)
  · rename_i m q hq
    cases l with
    | nil => simp [hd] at hq
    | cons a b =>
      have hl := hd_len d (a :: b) (by simp)
      rw [hq] at hl
      split at h
      · rename_i e' hy
        simp only [Rd.bad.injEq] at h
        rw [← h]; exact hrd m q e' hl hy
      · rename_i y q' hy
        exact hR q' e (Nat.lt_of_le_of_lt (rd_len hy) hl) (app_bad h)
theorem rd_bad : ∀ (N : Nat) (l : List UInt8), l.length < N → ∀ (c d : Nat) (e : Int), rd c d l = .bad e → e ≠ 0
  | 0, l, h, _, _, _, _ => absurd h (Nat.not_lt_zero _)
  | N + 1, l, hN, 0, d, e, h => by rw [rd_zero] at h; cases h
  | N + 1, l, hN, c + 1, d, e, h => by
    rw [rd_succ] at h
    exact step_bad (fun r' e hr h => rd_bad N r' (by omega) c d e h) (fun c r' e hr h => rd_bad N r' (by omega) c (d + 1) e h) h
theorem ra_bad : ∀ (N : Nat) (l : List UInt8), l.length < N → ∀ (e : Int), ra l = .bad e → e ≠ 0
  | 0, l, h, _, _ => absurd h (Nat.not_lt_zero _)
  | N + 1, [], hN, e, h => by rw [ra_nil] at h; cases h
  | N + 1, a :: b, hN, e, h => by
    rw [ra_cons] at h
    exact step_bad (fun r' e hr h => ra_bad N r' (by omega) e h) (fun c r' e hr h => rd_bad _ r' (Nat.lt_succ_self _) c 1 e h) h
/-- THE LAW: what is written is read back -/
theorem decode_encode (p : Items) (hm : p.may) (h : (encode p).2 = 0) : decode (encode p).1 = (p, 0) := by
  unfold encode at h ⊢
  by_cases h0 : (enc p 0).2 ≠ 0
  · rw [if_pos h0] at h; exact absurd h h0
  · rw [if_neg h0] at h ⊢
    by_cases h1 : 100000 < (enc p 0).1.length
    · rw [if_pos h1] at h; simp at h
    · rw [if_neg h1]
      unfold decode
      rw [if_neg h1, ra_enc p hm (by omega)]
/-- THE LAW: what is read is written so -/
theorem encode_decode (l : List UInt8) (h : (decode l).2 = 0) : encode (decode l).1 = (l, 0) ∧ (decode l).1.may ∧ (decode l).1.room ≤ 11 * l.length := by
  unfold decode at h ⊢
  by_cases h1 : 100000 < l.length
  · rw [if_pos h1] at h; simp at h
  · rw [if_neg h1] at h ⊢
    cases hx : ra l with
    | bad e => rw [hx] at h; exact absurd h (ra_bad _ l (Nat.lt_succ_self _) e hx)
    | ok x r =>
      simp only
      obtain ⟨g1, g2, g3, g4⟩ := good_ra _ l (Nat.lt_succ_self _) (by omega) x r hx
      have hr := ra_rest _ l (Nat.lt_succ_self _) x r hx
      subst hr
      rw [List.append_nil] at g2
      refine ⟨?_, g3, by simpa using g4⟩
      unfold encode
      rw [if_neg (by omega), ← g2, if_neg h1]
theorem decode_no (l : List UInt8) (h : (decode l).2 ≠ 0) : (decode l).1 = .nil := by
  unfold decode at h ⊢
  by_cases h1 : 100000 < l.length
  · rw [if_pos h1]
  · rw [if_neg h1] at h ⊢
    cases hx : ra l with
    | bad e => rfl
    | ok x r => rw [hx] at h; exact absurd rfl h
/-- .. so records that are written alike are the same -/
theorem encode_inj (p q : Items) (hp : p.may) (hq : q.may) (h1 : (encode p).2 = 0) (h2 : (encode q).2 = 0) (h : (encode p).1 = (encode q).1) : p = q := by
  have e1 := decode_encode p hp h1
  have e2 := decode_encode q hq h2
  rw [h, e2] at e1
  exact (congrArg Prod.fst e1).symm
end K
end Go.Proofs.YtfadnhihcobclaaDoor
