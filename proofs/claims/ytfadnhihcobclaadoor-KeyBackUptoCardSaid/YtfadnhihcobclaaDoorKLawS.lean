/- The walk of the law's small. -/
import Derived.Test.YtfadnhihcobclaaDoorKEncW
namespace Go.Proofs.YtfadnhihcobclaaDoor
open Go.RowKit
open Go.Lib (hid)
namespace K
theorem Items.drop_room : ∀ (l : Items) (j : Nat), (l.drop j).room ≤ l.room
  | .nil, 0 => Nat.le_refl _
  | .nil, _ + 1 => Nat.le_refl _
  | .cons _ _ _ _ _, 0 => Nat.le_refl _
  | .cons _ _ _ _ r, j + 1 => by
    have := Items.drop_room r j
    simp only [Items.drop, Items.room]; omega
/-- what is left of so many -/
def smallR : Items → Int → Int → Int
  | .nil, a, _ => a
  | .cons _ _ _ m r, a, d => if a < 0 then a else smallR r (if 40 < d + 1 then -1 else smallR m (a - 1) (d + 1)) d
def small (l : Items) (a d : Int) : Int := if 40 < d then -1 else smallR l a d
theorem smallR_cons (k : Nat) (n : Int) (s : ByteArray) (m r : Items) (a d : Int) : smallR (.cons k n s m r) a d = if a < 0 then a else smallR r (small m (a - 1) (d + 1)) d := rfl
theorem smallR_low : ∀ (l : Items) (a d : Int), a < 0 → smallR l a d = a
  | .nil, _, _, _ => rfl
  | .cons _ _ _ _ _, a, _, h => by rw [smallR_cons, if_pos h]
theorem smallR_in : ∀ (l : Items) (a d : Int), -1 ≤ a → a ≤ 3000 → -1 ≤ smallR l a d ∧ smallR l a d ≤ 3000
  | .nil, a, _, h0, h1 => ⟨h0, h1⟩
  | .cons _ _ _ m r, a, d, h0, h1 => by
    rw [smallR_cons]
    by_cases h : a < 0
    · rw [if_pos h]; exact ⟨h0, h1⟩
    · rw [if_neg h]
      unfold small
      by_cases hd : 40 < d + 1
      · rw [if_pos hd]; exact smallR_in r _ d (by omega) (by omega)
      · rw [if_neg hd]
        have := smallR_in m (a - 1) (d + 1) (by omega) (by omega)
        exact smallR_in r _ d this.1 this.2
end K
set_option maxRecDepth 100000 in
set_option maxHeartbeats 8000000 in
theorem small_any : ∀ (N : Nat) (l : K.Items) (_ : l.sz < N) (v : Value) (a d : Int) (B : Nat) (w : World) (_ : l.In w B v) (_ : l.room ≤ 100000000000000) (_ : l.may) (_ : -1 ≤ a) (_ : a ≤ 3000) (_ : 0 ≤ d) (_ : d ≤ 41),
    Calls Tryd.prog 18 #[v, .int .i64 a, .int .i64 d] w fun e w' => e = .returned (.int .i64 (K.small l a d)) ∧ Hid (w' = w) := by
  intro N
  induction N with
  | zero => intro l hN; omega
  | succ N ih =>
    intro l hN v a d B w hv hroom hmay ha0 ha1 hd0 hd1
    have IH := hid ih
    clear ih
    by_cases hd : 40 < d
    · have t0 : decide ((40 : Int) < d) = true := decide_eq_true hd
      unfold K.small
      rw [if_pos hd]
      go_enter Tryd.func18, Tryd.ntmps18
      go_wp2_with fail
      go_ret
      exact ⟨rfl, rfl⟩
    · have t0 : decide ((40 : Int) < d) = false := decide_eq_false hd
      unfold K.small
      rw [if_neg hd]
      obtain ⟨R, hR⟩ : ∃ R, K.smallR l a d = R := ⟨_, rfl⟩
      rw [hR]
      have HR := hid hR
      have HV := hid hv
      obtain ⟨n, hn⟩ : ∃ n, l.length = n := ⟨_, rfl⟩
      obtain ⟨xa, c, hsv⟩ : ∃ xa c, v = .slice xa n c := by
        rcases hv with ⟨a9, c9, rfl, rfl⟩ | ⟨b, o, c, rfl, _⟩
        · exact ⟨a9, c9, by rw [← hn]; rfl⟩
        · exact ⟨_, c, by rw [hn]⟩
      subst hsv
      have HN := hid hn
      have hlen : n ≤ 100000000000000 := by
        have := K.Items.room_length l
        omega
      clear hR hn hv
      go_enter Tryd.func18, Tryd.ntmps18
      go_wp2_with fail
      go_loopw [1, 7] (fun x i wr => ∃ (j : Nat) (q : Int), j ≤ n ∧ i = .int .i64 (j : Int) ∧ x = .int .i64 q ∧ -1 ≤ q ∧ q ≤ 3000 ∧ Hid (R = K.smallR (l.drop j) q d) ∧ Hid (wr = w)) (fun _ i _ => n - (intOf i).toNat)
      case atStart => exact ⟨0, a, by omega, rfl, rfl, ha0, ha1, by show R = _; rw [show l.drop 0 = l from by cases l <;> rfl]; exact HR.out.symm, rfl⟩
      case round =>
        obtain ⟨j, q, hj, rfl, rfl, hq0, hq1, hI, hw⟩ := hrel
        clear HR
        by_cases hlt : j < n
        · have hl0 : decide ((j : Int) < (n : Int)) = true := by simp; omega
          by_cases hq : q < 0
          · have q0 : decide ((0 : Int) ≤ q) = false := by simp; omega
            have HE := hid (p := R = q) (hI.out.trans (K.smallR_low _ q d hq))
            go_wp2_with fail
            go_ret
            exact ⟨by rw [HE.out]; rfl, hw⟩
          · have q0 : decide ((0 : Int) ≤ q) = true := by simp; omega
            have hj0 : (0 : Int) ≤ (j : Int) := by omega
            have hj1 : (j : Int) < (n : Int) := by omega
            obtain ⟨k, x, s, m, r, hcons⟩ := K.Items.cons_of_pos (l.drop j) (by rw [K.Items.drop_length]; have := HN.out; omega)
            rcases HV.out with ⟨_, _, e, h0⟩ | ⟨b, o, c', e, hA0⟩
            · have := HN.out; rw [h0] at this; simp [K.Items.length] at this; omega
            · simp only [Value.slice.injEq] at e
              obtain ⟨rfl, hnl, rfl⟩ := e
              clear hnl
              have hA := K.Items.At.drop l j o hA0
              rw [hcons] at hA
              obtain ⟨hbB, a0, a1, a2, ⟨mv, a3, hmv⟩, _⟩ := hA
              rw [Nat.mul_comm 4 j, ← hw.out] at a3
              have hmm := K.Items.may.drop l j hmay
              rw [hcons] at hmm
              have hI2 := hI.out
              rw [hcons, K.smallR_cons, if_neg hq] at hI2
              have hdr := K.Items.drop_succ l j hcons
              have hsz : m.sz < N := by
                have h1 := K.Items.drop_sz l j
                rw [hcons] at h1
                simp only [K.Items.sz] at h1; omega
              have hml : m.room ≤ 100000000000000 := by
                have h1 := K.Items.drop_room l j
                rw [hcons] at h1
                simp only [K.Items.room] at h1; omega
              have cR := fun X (h : m.In X B mv) => IH.out m hsz mv (q - 1) (d + 1) B X h hml hmm.2.2.2.2.2.1 (by omega) (by omega) (by omega) (by omega)
              have hin : Hid (K.Items.In w B m mv) := hmv
              have hsr := K.smallR_in m (q - 1) (d + 1) (by omega) (by omega)
              have hsi : -1 ≤ K.small m (q - 1) (d + 1) ∧ K.small m (q - 1) (d + 1) ≤ 3000 := by
                unfold K.small; split <;> omega
              obtain ⟨z, hz⟩ : ∃ z, K.small m (q - 1) (d + 1) = z := ⟨_, rfl⟩
              rw [hz] at hsi hI2 cR
              have hw1 : wrap64 (q - 1) = q - 1 := by unfold wrap64; omega
              have hw2 : IntKind.i64.wrap (q - 1) = q - 1 := by rw [IntKind.wrap_i64]; omega
              have HI2 : Hid (R = K.smallR (l.drop (j + 1)) z d) := by show _ = _; rw [hdr]; exact hI2
              clear hz hsr hI2 hI hdr hmm hmv hcons a0 a1 a2 hA0 hsz hml
              go_wp2_with fail
              refine (cR _ (by rw [hw.out]; exact hin.out)).mono ?_
              rintro e w1 ⟨rfl, hw3⟩
              have HW := hid (p := w1 = w) (hw3.out.trans hw.out)
              clear cR hw hw3 a3
              go_wp2_with fail
              go_roundw
              case rel => exact ⟨j + 1, z, by omega, by go_num, by rfl, hsi.1, hsi.2, HI2, HW⟩
              case measure => simp [intOf]; omega
        · have hl0 : decide ((j : Int) < (n : Int)) = false := by simp; omega
          have HE : Hid (R = q) := by
            show _ = _
            rw [hI.out]
            have hz : (l.drop j).length = 0 := by rw [K.Items.drop_length]; have := HN.out; omega
            cases hdl : l.drop j with
            | nil => rfl
            | cons k x s m r => rw [hdl] at hz; simp [K.Items.length] at hz
          go_wp2_with fail
          go_ret
          exact ⟨by rw [HE.out]; rfl, hw⟩
end Go.Proofs.YtfadnhihcobclaaDoor
