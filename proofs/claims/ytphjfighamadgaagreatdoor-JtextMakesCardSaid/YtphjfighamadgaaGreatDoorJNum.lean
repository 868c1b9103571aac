/- The reader's number. -/
import Derived.Test.YtphjfighamadgaaGreatDoorJA4
import Derived.Test.YtphjfighamadgaaGreatDoorJNumP
import Derived.Deep.LoopGhost
import Derived.Deep.RegionHeld3
namespace Go.Proofs.YtphjfighamadgaaGreatDoor
open Go.RowKit
open Go.Lib (hid)
/-- how a call of the reader's that gives a number ends -/
def TookN (w : World) (R : Nat) (s : ByteArray) (x : J.Res Int) (en : Ending) (W : World) : Prop :=
  (∃ v r, x = .ok (v, r) ∧ en = .returned (.int .i64 v) ∧ Rdr w R s (s.size - r.length) 0 0 W) ∨ (∃ n er q u, x = .error (n, er) ∧ q ≤ s.size ∧ en = .returned (.int .i64 u) ∧ Rdr w R s q er ((s.size - n : Nat) : Int) W)
theorem TookN.bad {w : World} {R : Nat} {s : ByteArray} {x : J.Res Int} {W : World} {n q : Nat} {er u : Int} (hx : x = .error (n, er)) (hq : q ≤ s.size) {v : Int} (hv : v = ((s.size - n : Nat) : Int)) (h : Rdr w R s q er v W) : TookN w R s x (.returned (.int .i64 u)) W :=
  Or.inr ⟨n, er, q, u, hx, hq, rfl, hv ▸ h⟩
theorem run_at {s : ByteArray} {f k : Nat} (h : k < ((s.data.toList.drop f).takeWhile J.dig).length) : ∃ h' : f + k < s.size, 48 ≤ (s[f + k]'(h')).toNat ∧ (s[f + k]'(h')).toNat ≤ 57 ∧ ((s.data.toList.drop f).takeWhile J.dig)[k] = s[f + k]'(h') := by
  obtain ⟨h1, h2, h3⟩ := J.dig_there h
  have h4 : f + k < s.size := by rw [List.length_drop, ← Lib.size_eq] at h1; omega
  have e : (s.data.toList.drop f)[k]'h1 = s[f + k]'h4 := by rw [List.getElem_drop]; rfl
  rw [e] at h2 h3
  have h5 : 48 ≤ (s[f + k]'h4).toNat ∧ (s[f + k]'h4).toNat ≤ 57 := by simpa [J.dig] using h2
  exact ⟨h4, h5.1, h5.2, h3⟩
theorem run_end {s : ByteArray} {f k : Nat} (h : k = ((s.data.toList.drop f).takeWhile J.dig).length) (hk : f + k < s.size) : ¬ (48 ≤ (s[f + k]'hk).toNat ∧ (s[f + k]'hk).toNat ≤ 57) := by
  subst h
  have h1 : ((s.data.toList.drop f).takeWhile J.dig).length < (s.data.toList.drop f).length := by rw [List.length_drop, ← Lib.size_eq]; omega
  have h2 := J.dig_not h1
  have e : (s.data.toList.drop f)[((s.data.toList.drop f).takeWhile J.dig).length]'h1 = s[f + ((s.data.toList.drop f).takeWhile J.dig).length]'hk := by rw [List.getElem_drop]; rfl
  rw [e] at h2
  simpa [J.dig] using h2
theorem run_take {s : ByteArray} {f k : Nat} (h : k = ((s.data.toList.drop f).takeWhile J.dig).length) : (s.data.toList.drop f).take k = (s.data.toList.drop f).takeWhile J.dig := by
  have hp := List.takeWhile_prefix (p := J.dig) (l := s.data.toList.drop f)
  rw [h]
  exact (List.prefix_iff_eq_take.1 hp).symm
/-- the run of digits from a place on -/
def digs (s : ByteArray) (f : Nat) : List UInt8 := (s.data.toList.drop f).takeWhile J.dig
theorem digs_le (s : ByteArray) (f : Nat) : (digs s f).length ≤ s.size - f := by
  have := J.digs_len (s.data.toList.drop f)
  rw [drop_len] at this
  exact this
/-- the answer by places: p: where the number begins; f: its first digit's place -/
theorem num_at {s : ByteArray} {p f : Nat} (hp : p < s.size) (hf : (s[p] = 45 ∧ f = p + 1) ∨ (s[p] ≠ 45 ∧ f = p)) : J.num (s.data.toList.drop p) = J.numR (decide (f = p + 1)) (s.size - p) (s.data.toList.drop f) (digs s f) (s.data.toList.drop (f + (digs s f).length)) := by
  have hd := drop_at hp
  rcases hf with ⟨h1, rfl⟩ | ⟨h1, rfl⟩
  · rw [hd, h1, J.num_minus, J.digs_drop, List.drop_drop, drop_len, show s.size - (p + 1) + 1 = s.size - p by omega, decide_eq_true rfl]
    rfl
  · rw [show decide (f = f + 1) = false by simp]
    conv => lhs; rw [hd]
    rw [J.num_plain h1, ← hd, J.digs_drop, List.drop_drop, drop_len, show s.size - (f + 1) + 1 = s.size - f by omega]
    rfl
namespace J
theorem numR_none (neg : Bool) (t : Nat) (l1 rest : List UInt8) : numR neg t l1 [] rest = .error (l1.length, 4) := rfl
theorem numR_cons (neg : Bool) (tot : Nat) (l1 rest : List UInt8) (d : UInt8) (more : List UInt8) : numR neg tot l1 (d :: more) rest = if d = 48 ∧ more ≠ [] then .error (l1.length - 1, 4)
    else if neg = true ∧ d = 48 then .error (l1.length, 4)
    else if neg = true then (if numV (d :: more) ≤ 9223372036854775808 then .ok (-((numV (d :: more) : Nat) : Int), rest) else .error (tot, 91))
    else if numV (d :: more) ≤ 9223372036854775807 then .ok (((numV (d :: more) : Nat) : Int), rest) else .error (tot, 91) := rfl
theorem numR_zeros {neg : Bool} {t : Nat} {l1 ds rest : List UInt8} (h1 : 1 < ds.length) (h0 : ds[0] = 48) : numR neg t l1 ds rest = .error (l1.length - 1, 4) := by
  match ds, h1, h0 with
  | d :: e :: m, _, h0 => rw [numR_cons, if_pos ⟨h0, by simp⟩]
theorem numR_neg0 {t : Nat} {l1 ds rest : List UInt8} (h1 : ds.length = 1) (h0 : ds[0] = 48) : numR true t l1 ds rest = .error (l1.length, 4) := by
  match ds, h1, h0 with
  | [d], _, h0 =>
    have h0 : d = 48 := h0
    subst h0; rfl
theorem numR_lib {neg : Bool} {t : Nat} {l1 ds rest : List UInt8} (h0 : 0 < ds.length) (hd : ∀ c ∈ ds, dig c = true) (hz : ds[0] = 48 → ds.length = 1 ∧ neg = false) :
    numR neg t l1 ds rest = match W.libP (if neg then 45 :: ds else ds) with | some v => .ok (v, rest) | none => .error (t, 91) := by
  match ds, h0, hz with
  | d :: m, _, hz =>
    rw [numR_cons]
    have e1 : ¬ (d = 48 ∧ m ≠ []) := by
      rintro ⟨h1, h2⟩
      have := (hz h1).1
      cases m with
      | nil => exact h2 rfl
      | cons => simp at this
    have e2 : ¬ (neg = true ∧ d = 48) := by
      rintro ⟨h1, h2⟩
      have := (hz h2).2
      rw [h1] at this; cases this
    rw [if_neg e1, if_neg e2]
    cases neg with
    | true =>
      rw [if_pos rfl, if_pos rfl, lib_neg (by simp) hd]
      split <;> rfl
    | false =>
      simp only [Bool.false_eq_true, if_false]
      rw [lib_pos (by simp) hd]
      split <;> rfl
end J
theorem digs_one {s : ByteArray} {f k : Nat} (hk : k = (digs s f).length) (hz : 2 ≤ k → (digs s f)[0]? ≠ some 48) {h0 : 0 < (digs s f).length} (h : (digs s f)[0] = 48) : (digs s f).length = 1 := by
  rcases Nat.lt_or_ge (digs s f).length 2 with h' | h'
  · omega
  · exact absurd (by rw [List.getElem?_eq_getElem h0, h]) (hz (by omega))
theorem digs_all (s : ByteArray) (f : Nat) : ∀ c ∈ digs s f, J.dig c = true := J.take_digs _
/-- what is handed to the library -/
theorem num_text {s : ByteArray} {p f k : Nat} (hp : p < s.size) (hf : (s[p] = 45 ∧ f = p + 1) ∨ (s[p] ≠ 45 ∧ f = p)) (hk : k = (digs s f).length) : (s.extract p (f + k)).data.toList = if decide (f = p + 1) then 45 :: digs s f else digs s f := by
  rw [cut_list]
  rcases hf with ⟨h1, rfl⟩ | ⟨h1, rfl⟩
  · rw [decide_eq_true rfl, if_pos rfl, drop_at hp, show p + 1 + k - p = k + 1 by omega, List.take_succ_cons, h1, run_take (f := p + 1) hk]; rfl
  · rw [show decide (f = f + 1) = false by simp, if_neg (by simp), show f + k - f = k by omega, run_take hk]; rfl
set_option maxRecDepth 100000 in
set_option maxHeartbeats 16000000 in
theorem number_neg {w : World} {B R p : Nat} {s : ByteArray} {W : World} (h : Rdr w R s p 0 0 W) (hp : p < s.size) (hs : s.size ≤ 140737488355328) (hG : Ground B w) (hBR : B ≤ R) (hm : s[p] = 45) :
    Calls Tryz.prog 44 #[.pointer (some ⟨R, 0, none⟩)] W (TookN w R s (J.num (s.data.toList.drop p))) := by
  have HR := hid h
  obtain ⟨RES, hRES⟩ : ∃ x, J.num (s.data.toList.drop p) = x := ⟨_, rfl⟩
  rw [hRES]
  obtain ⟨f, hfe⟩ : ∃ f, f = (p + 1) := ⟨_, rfl⟩
  have hf : (s[p] = 45 ∧ f = p + 1) ∨ (s[p] ≠ 45 ∧ f = p) := Or.inl ⟨hm, hfe⟩
  rw [num_at hp hf] at hRES
  have HE := hid hRES.symm
  have HFS : Hid (f ≤ s.size) := by show _ ≤ _; rcases hf with ⟨_, h⟩ | ⟨_, h⟩ <;> omega
  obtain ⟨c0, c1, -, -⟩ := h.cells
  have p0 : (0 : Int) ≤ (p : Int) := by omega
  have p1 : (p : Int) < (s.size : Int) := by omega
  have t0 : ((s[p].toNat : Int) == 45) = true := by rw [hm]; rfl
  clear h hRES
  have e1 : (p : Int) + 1 = (f : Int) := by omega
  have e2 : IntKind.i64.wrap (f : Int) = (f : Int) := by rw [IntKind.wrap_i64]; omega
  have HFE := hid hfe
  have HM := hid hm
  clear hfe hm hf
  go_enter Tryz.func44, Tryz.ntmps44
  go_wp2_with fail
  go_quiet (fail)
  have H1 := hid (HR.out.drewN nq)
  obtain ⟨d0, d1, -, -⟩ := H1.out.cells
  obtain ⟨-, g1, -, -⟩ := H1.out.free
  clear c0 c1 HR t0
  generalize World.drewN W nq = wn at *
  go_wp2_with fail
  have HR0 := hid (H1.out.set1 f)
  clear H1 d0 d1 g1 e1 e2
  go_loopg [] (digs s f).length (fun g wr => ∃ k : Nat, k ≤ (digs s f).length ∧ (digs s f).length - k ≤ g ∧ Hid ((2 ≤ k → (digs s f)[0]? ≠ some 48) ∧ Rdr w R s (f + k) 0 0 wr))
  case atStart => exact ⟨0, Nat.zero_le _, Nat.le_refl _, hid ⟨fun h => by omega, HR0.out⟩⟩
  case round =>
    obtain ⟨k, hk, hg, hI⟩ := hrel
    clear HR0
    obtain ⟨q, hq⟩ : ∃ q, f + k = q := ⟨_, rfl⟩
    have HZ := hid hI.out.1
    have HR := hid hI.out.2
    rw [hq] at HR
    clear hI
    have HQ := hid hq
    have q0 : (0 : Int) ≤ (q : Int) := by omega
    obtain ⟨c0, c1, -, -⟩ := HR.out.cells
    by_cases hlt : k < (digs s f).length
    · obtain ⟨h1, h2, h3, h4⟩ : ∃ h' : q < s.size, 48 ≤ (s[q]'(h')).toNat ∧ (s[q]'(h')).toNat ≤ 57 ∧ (digs s f)[k] = s[q]'(h') := by subst hq; exact run_at hlt
      have t0 : decide ((q : Int) < (s.size : Int)) = true := by simp; omega
      have q1 : (q : Int) < (s.size : Int) := by omega
      have u0 : decide ((48 : Int) ≤ (s[q].toNat : Int)) = true := by simp; omega
      have u1 : decide ((s[q].toNat : Int) ≤ (57 : Int)) = true := by simp; omega
      have hf1 : f < s.size := by omega
      have f0 : (0 : Int) ≤ (f : Int) := by omega
      have f1 : (f : Int) < (s.size : Int) := by omega
      have HLT := hid hlt
      clear h2 h3 h4 hq hlt
      go_wp2_with fail
      go_quiet (fail)
      have H1 := hid (HR.out.drewN nq)
      obtain ⟨d0, d1, -, -⟩ := H1.out.cells
      obtain ⟨-, g1, -, -⟩ := H1.out.free
      obtain ⟨q', hq'⟩ : ∃ q', q + 1 = q' := ⟨_, rfl⟩
      have e1 : (q : Int) + 1 = (q' : Int) := by omega
      have e2 : IntKind.i64.wrap (q' : Int) = (q' : Int) := by rw [IntKind.wrap_i64]; omega
      have HQ' := hid hq'
      clear hq' c0 c1 HR u0 u1
      generalize World.drewN wr nq = wn at *
      by_cases hk1 : k = 1
      · have t2 : ((q : Int) == (f : Int) + 1) = true := by have := HQ.out; simp; omega
        by_cases hz : s[f] = 48
        · have t5 : ((s[f].toNat : Int) == 48) = true := by rw [hz]; rfl
          have HX : Hid (RES = .error ((s.data.toList.drop f).length - 1, 4)) := by
            show _ = _
            rw [HE.out]
            obtain ⟨_, _, _, hd⟩ := run_at (s := s) (f := f) (k := 0) (by have := HLT.out; rw [digs] at this; omega)
            exact J.numR_zeros (by have := HLT.out; omega) (hd.trans hz)
          have HB := hid (bad0 H1.out)
          clear hz
          go_wp2_with fail
          refine HB.out.mono ?_
          rintro en w2 ⟨rfl, hr⟩
          have H2 := hid hr
          clear hr
          go_wp2_with fail
          go_ret
          exact TookN.bad HX.out (by omega) (by have := HQ.out; rw [drop_len]; omega) H2.out
        · have t5 : ((s[f].toNat : Int) == 48) = false := beq_eq_false_iff_ne.2 (fun h => hz (UInt8.toNat_inj.1 (show s[f].toNat = 48 by omega)))
          have HZ2 : Hid (2 ≤ k + 1 → (digs s f)[0]? ≠ some 48) := fun _ h => by
            obtain ⟨_, _, _, hd⟩ := run_at (s := s) (f := f) (k := 0) (by have := HLT.out; rw [digs] at this; omega)
            rw [List.getElem?_eq_getElem (by have := HLT.out; omega)] at h
            exact hz (hd.symm.trans (Option.some.inj h))
          clear hz
          go_wp2_with fail
          go_roundg ((digs s f).length - (k + 1))
          case measure => have := HLT.out; omega
          case rel => exact ⟨k + 1, by have := HLT.out; omega, Nat.le_refl _, hid ⟨HZ2.out, by rw [show f + (k + 1) = q' by have := HQ.out; have := HQ'.out; omega]; exact H1.out.set1 q'⟩⟩
      · have t2 : ((q : Int) == (f : Int) + 1) = false := beq_eq_false_iff_ne.2 (by have := HQ.out; omega)
        have HZ2 : Hid (2 ≤ k + 1 → (digs s f)[0]? ≠ some 48) := fun h => HZ.out (by omega)
        go_wp2_with fail
        go_roundg ((digs s f).length - (k + 1))
        case measure => have := HLT.out; omega
        case rel => exact ⟨k + 1, by have := HLT.out; omega, Nat.le_refl _, hid ⟨HZ2.out, by rw [show f + (k + 1) = q' by have := HQ.out; have := HQ'.out; omega]; exact H1.out.set1 q'⟩⟩
    · have HN : Hid (k = (digs s f).length) := by show _ = _; omega
      have hq2 : q ≤ s.size := by have := digs_le s f; have := HN.out; have := HFS.out; omega
      have hend : (decide ((q : Int) < (s.size : Int)) = false) ∨ ∃ h' : q < s.size, decide ((q : Int) < (s.size : Int)) = true ∧ ((decide ((48 : Int) ≤ ((s[q]'(h')).toNat : Int)) = false) ∨ ((decide ((48 : Int) ≤ ((s[q]'(h')).toNat : Int)) = true) ∧ (decide (((s[q]'(h')).toNat : Int) ≤ 57) = false))) := by
        by_cases h : q < s.size
        · refine Or.inr ⟨h, by simp; omega, ?_⟩
          have hn := run_end (s := s) (f := f) (k := k) HN.out (by omega)
          have hn' : ¬ (48 ≤ (s[q]'h).toNat ∧ (s[q]'h).toNat ≤ 57) := by subst hq; exact hn
          by_cases h48 : 48 ≤ (s[q]'h).toNat
          · exact Or.inr ⟨by simp; omega, by simp; omega⟩
          · exact Or.inl (by simp; omega)
        · exact Or.inl (by simp; omega)
      clear hlt hq
      rcases hend with t0 | ⟨hqs, t0, u0 | ⟨u0, u1⟩⟩
      · have tn : decide (q < s.size) = false := by simpa using t0
        go_wp2_with fail
        go_quiet (fail)
        have H1 := hid (HR.out.drewN nq)
        obtain ⟨d0, d1, -, -⟩ := H1.out.cells
        clear HR c0 c1 t0 tn
        generalize World.drewN wr nq = wn at *
        have c0 := d0
        have c1 := d1
        clear d0 d1
        have HF := hid (fail0 4 (f : Int) H1.out)
        have HB := hid (bad0 H1.out)
        by_cases hk0 : k = 0
        · have t3 : ((q : Int) == (f : Int)) = true := by have := HQ.out; simp; omega
          have HX : Hid (RES = .error ((s.data.toList.drop f).length, 4)) := by
            show _ = _
            rw [HE.out, List.eq_nil_of_length_eq_zero (show (digs s f).length = 0 by have := HN.out; omega), J.numR_none]
          clear HF
          go_wp2_with fail
          refine HB.out.mono ?_
          rintro en w2 ⟨rfl, hr⟩
          have H2 := hid hr
          clear hr
          go_wp2_with fail
          go_ret
          exact TookN.bad HX.out hq2 (by have := HQ.out; rw [drop_len]; omega) H2.out
        · have t3 : ((q : Int) == (f : Int)) = false := beq_eq_false_iff_ne.2 (by have := HQ.out; omega)
          have t4 : decide ((p : Int) < (f : Int)) = true := by have := HFE.out; simp; omega
          have hpf : p < f := by have := HFE.out; omega
          have hpfi : (p : Int) < (f : Int) := by omega
          have hf0 : f < s.size := by have := HQ.out; have := (run_at (s := s) (f := f) (k := 0) (by rw [← digs]; have := HN.out; omega)).1; omega
          have f0 : (0 : Int) ≤ (f : Int) := by omega
          have f1 : (f : Int) < (s.size : Int) := by omega
          obtain ⟨_, _, _, HD0⟩ := run_at (s := s) (f := f) (k := 0) (by rw [← digs]; have := HN.out; omega)
          by_cases hz : s[f] = 48
          · have t5 : ((s[f].toNat : Int) == 48) = true := by rw [hz]; rfl
            have hk1 : k = 1 := by
              rcases Nat.lt_or_ge k 2 with h | h
              · omega
              · exact absurd (by rw [List.getElem?_eq_getElem (by have := HN.out; omega)]; exact congrArg some (HD0.trans hz)) (HZ.out h)
            have HX : Hid (RES = .error ((s.data.toList.drop f).length, 4)) := by
              show _ = _
              rw [HE.out, decide_eq_true HFE.out]
              exact J.numR_neg0 (by rw [← HN.out]; exact hk1) (HD0.trans hz)
            clear HD0 hz
            go_wp2_with fail
            refine HF.out.mono ?_
            rintro en w2 ⟨rfl, hr⟩
            have H2 := hid hr
            clear hr
            go_wp2_with fail
            go_ret
            exact TookN.bad HX.out hq2 (by rw [drop_len]; omega) H2.out
          · have t5 : ((s[f].toNat : Int) == 48) = false := beq_eq_false_iff_ne.2 (fun h => hz (UInt8.toNat_inj.1 (show s[f].toNat = 48 by omega)))
            have HNZ : Hid ((digs s f)[0]'(by have := HN.out; omega) ≠ 48) := fun h => hz (HD0.symm.trans h)
            clear HD0 hz
            have HT := hid (num_text hp (Or.inl ⟨HM.out, HFE.out⟩) HN.out)
            rw [HQ.out] at HT
            have HR2 := hid (J.numR_lib (neg := decide (f = p + 1)) (t := s.size - p) (l1 := s.data.toList.drop f) (rest := s.data.toList.drop (f + (digs s f).length)) (show 0 < (digs s f).length by have := HN.out; omega) (digs_all s f) (fun hz => absurd hz HNZ.out))
            rw [← HT.out] at HR2
            have q4 : (0 : Int) ≤ (p : Int) := by omega
            have q5 : (p : Int) ≤ (q : Int) := by have := HQ.out; have := HFE.out; omega
            have q6 : (q : Int) ≤ (s.size : Int) := by omega
            have HXS : Hid ((s.extract p q).size ≤ 281474976710656) := by show _ ≤ _; rw [ByteArray.size_extract]; omega
            cases hv : Go.Proofs.YtphjfighamadgaaGreatDoor.W.libP (s.extract p q).data.toList with
            | some v =>
              have HX : Hid (RES = .ok (v, s.data.toList.drop (f + (digs s f).length))) := by
                show _ = _
                rw [HE.out, HR2.out, hv]
              have HPA := hid (fun X (hb : Below B w X) => parseInt_some hv HXS.out (hG.errs X hb))
              clear hv HR2 HXS HT HB HF
              go_wp2_with fail
              go_region_held3 (fun w' => w'.cell? ⟨R, 0, none⟩ = some (.string s) ∧ w'.cell? ⟨R, 1, none⟩ = some (.int .i64 (q : Int)))
                  (first
                    | assumption
                    | exact ⟨H1.out.drew.cells.1, H1.out.drew.cells.2.1⟩
                    | exact ⟨H4.out.cells.1, H4.out.cells.2.1⟩
                    | fail)
                  (first
                    | (go_at_call 67; refine (HPA.out _ (H1.out.drew.base hBR)).mono ?_; rintro en w4 ⟨rfl, hb⟩; (have H4 := hid (H1.out.drew.below hb)); clear hb)
                    | fail)
              all_goals
                go_wp2_with fail
                go_ret
                refine Or.inl ⟨v, _, HX.out, rfl, ?_⟩
                have e : s.size - (s.data.toList.drop (f + (digs s f).length)).length = q := by rw [drop_len]; have := HQ.out; have := HN.out; omega
                rw [e]; exact H4.out
            | none =>
              have HX : Hid (RES = .error (s.size - p, 91)) := by
                show _ = _
                rw [HE.out, HR2.out, hv]
              have HPA := hid (fun X (hb : Below B w X) => parseInt_none hv HXS.out (hG.errs X hb))
              clear hv HR2 HXS HT HB HF
              go_wp2_with fail
              go_region_held3 (fun w' => w'.cell? ⟨R, 0, none⟩ = some (.string s) ∧ w'.cell? ⟨R, 1, none⟩ = some (.int .i64 (q : Int)))
                  (first
                    | assumption
                    | exact ⟨H1.out.drew.cells.1, H1.out.drew.cells.2.1⟩
                    | exact ⟨H4.out.cells.1, H4.out.cells.2.1⟩
                    | fail)
                  (first
                    | (go_at_call 67; refine (HPA.out _ (H1.out.drew.base hBR)).mono ?_; rintro en w4 ⟨x, N, rfl, hb⟩; (have H4 := hid (H1.out.drew.below hb)); clear hb)
                    | fail)
              all_goals
                have HF := hid (fail0 91 (p : Int) H4.out)
                go_wp2_with fail
                refine HF.out.mono ?_
                rintro en w5 ⟨rfl, hr⟩
                have H5 := hid hr
                clear hr
                go_wp2_with fail
                go_ret
                exact TookN.bad HX.out hq2 (by omega) H5.out
      · have q1 : (q : Int) < (s.size : Int) := by omega
        go_wp2_with fail
        go_quiet (fail)
        have H1 := hid (HR.out.drewN nq)
        obtain ⟨d0, d1, -, -⟩ := H1.out.cells
        clear HR c0 c1 t0 u0
        generalize World.drewN wr nq = wn at *
        have c0 := d0
        have c1 := d1
        clear d0 d1
        have HF := hid (fail0 4 (f : Int) H1.out)
        have HB := hid (bad0 H1.out)
        by_cases hk0 : k = 0
        · have t3 : ((q : Int) == (f : Int)) = true := by have := HQ.out; simp; omega
          have HX : Hid (RES = .error ((s.data.toList.drop f).length, 4)) := by
            show _ = _
            rw [HE.out, List.eq_nil_of_length_eq_zero (show (digs s f).length = 0 by have := HN.out; omega), J.numR_none]
          clear HF
          go_wp2_with fail
          refine HB.out.mono ?_
          rintro en w2 ⟨rfl, hr⟩
          have H2 := hid hr
          clear hr
          go_wp2_with fail
          go_ret
          exact TookN.bad HX.out hq2 (by have := HQ.out; rw [drop_len]; omega) H2.out
        · have t3 : ((q : Int) == (f : Int)) = false := beq_eq_false_iff_ne.2 (by have := HQ.out; omega)
          have t4 : decide ((p : Int) < (f : Int)) = true := by have := HFE.out; simp; omega
          have hpf : p < f := by have := HFE.out; omega
          have hpfi : (p : Int) < (f : Int) := by omega
          have hf0 : f < s.size := by have := HQ.out; have := (run_at (s := s) (f := f) (k := 0) (by rw [← digs]; have := HN.out; omega)).1; omega
          have f0 : (0 : Int) ≤ (f : Int) := by omega
          have f1 : (f : Int) < (s.size : Int) := by omega
          obtain ⟨_, _, _, HD0⟩ := run_at (s := s) (f := f) (k := 0) (by rw [← digs]; have := HN.out; omega)
          by_cases hz : s[f] = 48
          · have t5 : ((s[f].toNat : Int) == 48) = true := by rw [hz]; rfl
            have hk1 : k = 1 := by
              rcases Nat.lt_or_ge k 2 with h | h
              · omega
              · exact absurd (by rw [List.getElem?_eq_getElem (by have := HN.out; omega)]; exact congrArg some (HD0.trans hz)) (HZ.out h)
            have HX : Hid (RES = .error ((s.data.toList.drop f).length, 4)) := by
              show _ = _
              rw [HE.out, decide_eq_true HFE.out]
              exact J.numR_neg0 (by rw [← HN.out]; exact hk1) (HD0.trans hz)
            clear HD0 hz
            go_wp2_with fail
            refine HF.out.mono ?_
            rintro en w2 ⟨rfl, hr⟩
            have H2 := hid hr
            clear hr
            go_wp2_with fail
            go_ret
            exact TookN.bad HX.out hq2 (by rw [drop_len]; omega) H2.out
          · have t5 : ((s[f].toNat : Int) == 48) = false := beq_eq_false_iff_ne.2 (fun h => hz (UInt8.toNat_inj.1 (show s[f].toNat = 48 by omega)))
            have HNZ : Hid ((digs s f)[0]'(by have := HN.out; omega) ≠ 48) := fun h => hz (HD0.symm.trans h)
            clear HD0 hz
            have HT := hid (num_text hp (Or.inl ⟨HM.out, HFE.out⟩) HN.out)
            rw [HQ.out] at HT
            have HR2 := hid (J.numR_lib (neg := decide (f = p + 1)) (t := s.size - p) (l1 := s.data.toList.drop f) (rest := s.data.toList.drop (f + (digs s f).length)) (show 0 < (digs s f).length by have := HN.out; omega) (digs_all s f) (fun hz => absurd hz HNZ.out))
            rw [← HT.out] at HR2
            have q4 : (0 : Int) ≤ (p : Int) := by omega
            have q5 : (p : Int) ≤ (q : Int) := by have := HQ.out; have := HFE.out; omega
            have q6 : (q : Int) ≤ (s.size : Int) := by omega
            have HXS : Hid ((s.extract p q).size ≤ 281474976710656) := by show _ ≤ _; rw [ByteArray.size_extract]; omega
            cases hv : Go.Proofs.YtphjfighamadgaaGreatDoor.W.libP (s.extract p q).data.toList with
            | some v =>
              have HX : Hid (RES = .ok (v, s.data.toList.drop (f + (digs s f).length))) := by
                show _ = _
                rw [HE.out, HR2.out, hv]
              have HPA := hid (fun X (hb : Below B w X) => parseInt_some hv HXS.out (hG.errs X hb))
              clear hv HR2 HXS HT HB HF
              go_wp2_with fail
              go_region_held3 (fun w' => w'.cell? ⟨R, 0, none⟩ = some (.string s) ∧ w'.cell? ⟨R, 1, none⟩ = some (.int .i64 (q : Int)))
                  (first
                    | assumption
                    | exact ⟨H1.out.drew.cells.1, H1.out.drew.cells.2.1⟩
                    | exact ⟨H4.out.cells.1, H4.out.cells.2.1⟩
                    | fail)
                  (first
                    | (go_at_call 67; refine (HPA.out _ (H1.out.drew.base hBR)).mono ?_; rintro en w4 ⟨rfl, hb⟩; (have H4 := hid (H1.out.drew.below hb)); clear hb)
                    | fail)
              all_goals
                go_wp2_with fail
                go_ret
                refine Or.inl ⟨v, _, HX.out, rfl, ?_⟩
                have e : s.size - (s.data.toList.drop (f + (digs s f).length)).length = q := by rw [drop_len]; have := HQ.out; have := HN.out; omega
                rw [e]; exact H4.out
            | none =>
              have HX : Hid (RES = .error (s.size - p, 91)) := by
                show _ = _
                rw [HE.out, HR2.out, hv]
              have HPA := hid (fun X (hb : Below B w X) => parseInt_none hv HXS.out (hG.errs X hb))
              clear hv HR2 HXS HT HB HF
              go_wp2_with fail
              go_region_held3 (fun w' => w'.cell? ⟨R, 0, none⟩ = some (.string s) ∧ w'.cell? ⟨R, 1, none⟩ = some (.int .i64 (q : Int)))
                  (first
                    | assumption
                    | exact ⟨H1.out.drew.cells.1, H1.out.drew.cells.2.1⟩
                    | exact ⟨H4.out.cells.1, H4.out.cells.2.1⟩
                    | fail)
                  (first
                    | (go_at_call 67; refine (HPA.out _ (H1.out.drew.base hBR)).mono ?_; rintro en w4 ⟨x, N, rfl, hb⟩; (have H4 := hid (H1.out.drew.below hb)); clear hb)
                    | fail)
              all_goals
                have HF := hid (fail0 91 (p : Int) H4.out)
                go_wp2_with fail
                refine HF.out.mono ?_
                rintro en w5 ⟨rfl, hr⟩
                have H5 := hid hr
                clear hr
                go_wp2_with fail
                go_ret
                exact TookN.bad HX.out hq2 (by omega) H5.out
      · have q1 : (q : Int) < (s.size : Int) := by omega
        go_wp2_with fail
        go_quiet (fail)
        have H1 := hid (HR.out.drewN nq)
        obtain ⟨d0, d1, -, -⟩ := H1.out.cells
        clear HR c0 c1 t0 u0 u1
        generalize World.drewN wr nq = wn at *
        have c0 := d0
        have c1 := d1
        clear d0 d1
        have HF := hid (fail0 4 (f : Int) H1.out)
        have HB := hid (bad0 H1.out)
        by_cases hk0 : k = 0
        · have t3 : ((q : Int) == (f : Int)) = true := by have := HQ.out; simp; omega
          have HX : Hid (RES = .error ((s.data.toList.drop f).length, 4)) := by
            show _ = _
            rw [HE.out, List.eq_nil_of_length_eq_zero (show (digs s f).length = 0 by have := HN.out; omega), J.numR_none]
          clear HF
          go_wp2_with fail
          refine HB.out.mono ?_
          rintro en w2 ⟨rfl, hr⟩
          have H2 := hid hr
          clear hr
          go_wp2_with fail
          go_ret
          exact TookN.bad HX.out hq2 (by have := HQ.out; rw [drop_len]; omega) H2.out
        · have t3 : ((q : Int) == (f : Int)) = false := beq_eq_false_iff_ne.2 (by have := HQ.out; omega)
          have t4 : decide ((p : Int) < (f : Int)) = true := by have := HFE.out; simp; omega
          have hpf : p < f := by have := HFE.out; omega
          have hpfi : (p : Int) < (f : Int) := by omega
          have hf0 : f < s.size := by have := HQ.out; have := (run_at (s := s) (f := f) (k := 0) (by rw [← digs]; have := HN.out; omega)).1; omega
          have f0 : (0 : Int) ≤ (f : Int) := by omega
          have f1 : (f : Int) < (s.size : Int) := by omega
          obtain ⟨_, _, _, HD0⟩ := run_at (s := s) (f := f) (k := 0) (by rw [← digs]; have := HN.out; omega)
          by_cases hz : s[f] = 48
          · have t5 : ((s[f].toNat : Int) == 48) = true := by rw [hz]; rfl
            have hk1 : k = 1 := by
              rcases Nat.lt_or_ge k 2 with h | h
              · omega
              · exact absurd (by rw [List.getElem?_eq_getElem (by have := HN.out; omega)]; exact congrArg some (HD0.trans hz)) (HZ.out h)
            have HX : Hid (RES = .error ((s.data.toList.drop f).length, 4)) := by
              show _ = _
              rw [HE.out, decide_eq_true HFE.out]
              exact J.numR_neg0 (by rw [← HN.out]; exact hk1) (HD0.trans hz)
            clear HD0 hz
            go_wp2_with fail
            refine HF.out.mono ?_
            rintro en w2 ⟨rfl, hr⟩
            have H2 := hid hr
            clear hr
            go_wp2_with fail
            go_ret
            exact TookN.bad HX.out hq2 (by rw [drop_len]; omega) H2.out
          · have t5 : ((s[f].toNat : Int) == 48) = false := beq_eq_false_iff_ne.2 (fun h => hz (UInt8.toNat_inj.1 (show s[f].toNat = 48 by omega)))
            have HNZ : Hid ((digs s f)[0]'(by have := HN.out; omega) ≠ 48) := fun h => hz (HD0.symm.trans h)
            clear HD0 hz
            have HT := hid (num_text hp (Or.inl ⟨HM.out, HFE.out⟩) HN.out)
            rw [HQ.out] at HT
            have HR2 := hid (J.numR_lib (neg := decide (f = p + 1)) (t := s.size - p) (l1 := s.data.toList.drop f) (rest := s.data.toList.drop (f + (digs s f).length)) (show 0 < (digs s f).length by have := HN.out; omega) (digs_all s f) (fun hz => absurd hz HNZ.out))
            rw [← HT.out] at HR2
            have q4 : (0 : Int) ≤ (p : Int) := by omega
            have q5 : (p : Int) ≤ (q : Int) := by have := HQ.out; have := HFE.out; omega
            have q6 : (q : Int) ≤ (s.size : Int) := by omega
            have HXS : Hid ((s.extract p q).size ≤ 281474976710656) := by show _ ≤ _; rw [ByteArray.size_extract]; omega
            cases hv : Go.Proofs.YtphjfighamadgaaGreatDoor.W.libP (s.extract p q).data.toList with
            | some v =>
              have HX : Hid (RES = .ok (v, s.data.toList.drop (f + (digs s f).length))) := by
                show _ = _
                rw [HE.out, HR2.out, hv]
              have HPA := hid (fun X (hb : Below B w X) => parseInt_some hv HXS.out (hG.errs X hb))
              clear hv HR2 HXS HT HB HF
              go_wp2_with fail
              go_region_held3 (fun w' => w'.cell? ⟨R, 0, none⟩ = some (.string s) ∧ w'.cell? ⟨R, 1, none⟩ = some (.int .i64 (q : Int)))
                  (first
                    | assumption
                    | exact ⟨H1.out.drew.cells.1, H1.out.drew.cells.2.1⟩
                    | exact ⟨H4.out.cells.1, H4.out.cells.2.1⟩
                    | fail)
                  (first
                    | (go_at_call 67; refine (HPA.out _ (H1.out.drew.base hBR)).mono ?_; rintro en w4 ⟨rfl, hb⟩; (have H4 := hid (H1.out.drew.below hb)); clear hb)
                    | fail)
              all_goals
                go_wp2_with fail
                go_ret
                refine Or.inl ⟨v, _, HX.out, rfl, ?_⟩
                have e : s.size - (s.data.toList.drop (f + (digs s f).length)).length = q := by rw [drop_len]; have := HQ.out; have := HN.out; omega
                rw [e]; exact H4.out
            | none =>
              have HX : Hid (RES = .error (s.size - p, 91)) := by
                show _ = _
                rw [HE.out, HR2.out, hv]
              have HPA := hid (fun X (hb : Below B w X) => parseInt_none hv HXS.out (hG.errs X hb))
              clear hv HR2 HXS HT HB HF
              go_wp2_with fail
              go_region_held3 (fun w' => w'.cell? ⟨R, 0, none⟩ = some (.string s) ∧ w'.cell? ⟨R, 1, none⟩ = some (.int .i64 (q : Int)))
                  (first
                    | assumption
                    | exact ⟨H1.out.drew.cells.1, H1.out.drew.cells.2.1⟩
                    | exact ⟨H4.out.cells.1, H4.out.cells.2.1⟩
                    | fail)
                  (first
                    | (go_at_call 67; refine (HPA.out _ (H1.out.drew.base hBR)).mono ?_; rintro en w4 ⟨x, N, rfl, hb⟩; (have H4 := hid (H1.out.drew.below hb)); clear hb)
                    | fail)
              all_goals
                have HF := hid (fail0 91 (p : Int) H4.out)
                go_wp2_with fail
                refine HF.out.mono ?_
                rintro en w5 ⟨rfl, hr⟩
                have H5 := hid hr
                clear hr
                go_wp2_with fail
                go_ret
                exact TookN.bad HX.out hq2 (by omega) H5.out
set_option maxRecDepth 100000 in
set_option maxHeartbeats 16000000 in
theorem number_pos {w : World} {B R p : Nat} {s : ByteArray} {W : World} (h : Rdr w R s p 0 0 W) (hp : p < s.size) (hs : s.size ≤ 140737488355328) (hG : Ground B w) (hBR : B ≤ R) (hm : s[p] ≠ 45) :
    Calls Tryz.prog 44 #[.pointer (some ⟨R, 0, none⟩)] W (TookN w R s (J.num (s.data.toList.drop p))) := by
  have HR := hid h
  obtain ⟨RES, hRES⟩ : ∃ x, J.num (s.data.toList.drop p) = x := ⟨_, rfl⟩
  rw [hRES]
  obtain ⟨f, hfe⟩ : ∃ f, f = p := ⟨_, rfl⟩
  have hf : (s[p] = 45 ∧ f = p + 1) ∨ (s[p] ≠ 45 ∧ f = p) := Or.inr ⟨hm, hfe⟩
  rw [num_at hp hf] at hRES
  have HE := hid hRES.symm
  have HFS : Hid (f ≤ s.size) := by show _ ≤ _; rcases hf with ⟨_, h⟩ | ⟨_, h⟩ <;> omega
  obtain ⟨c0, c1, -, -⟩ := h.cells
  have p0 : (0 : Int) ≤ (p : Int) := by omega
  have p1 : (p : Int) < (s.size : Int) := by omega
  have t0 : ((s[p].toNat : Int) == 45) = false := beq_eq_false_iff_ne.2 (fun h => hm (UInt8.toNat_inj.1 (show s[p].toNat = 45 by omega)))
  clear h hRES
  subst hfe
  have HM := hid hm
  clear hm hf
  go_enter Tryz.func44, Tryz.ntmps44
  go_wp2_with fail
  go_quiet (fail)
  have HR0 := hid (HR.out.drewN nq)
  obtain ⟨d0, d1, -, -⟩ := HR0.out.cells
  clear c0 c1 HR t0
  generalize World.drewN W nq = wn at *
  go_wp2_with fail
  clear d0 d1
  go_loopg [] (digs s f).length (fun g wr => ∃ k : Nat, k ≤ (digs s f).length ∧ (digs s f).length - k ≤ g ∧ Hid ((2 ≤ k → (digs s f)[0]? ≠ some 48) ∧ Rdr w R s (f + k) 0 0 wr))
  case atStart => exact ⟨0, Nat.zero_le _, Nat.le_refl _, hid ⟨fun h => by omega, HR0.out⟩⟩
  case round =>
    obtain ⟨k, hk, hg, hI⟩ := hrel
    clear HR0
    obtain ⟨q, hq⟩ : ∃ q, f + k = q := ⟨_, rfl⟩
    have HZ := hid hI.out.1
    have HR := hid hI.out.2
    rw [hq] at HR
    clear hI
    have HQ := hid hq
    have q0 : (0 : Int) ≤ (q : Int) := by omega
    obtain ⟨c0, c1, -, -⟩ := HR.out.cells
    by_cases hlt : k < (digs s f).length
    · obtain ⟨h1, h2, h3, h4⟩ : ∃ h' : q < s.size, 48 ≤ (s[q]'(h')).toNat ∧ (s[q]'(h')).toNat ≤ 57 ∧ (digs s f)[k] = s[q]'(h') := by subst hq; exact run_at hlt
      have t0 : decide ((q : Int) < (s.size : Int)) = true := by simp; omega
      have q1 : (q : Int) < (s.size : Int) := by omega
      have u0 : decide ((48 : Int) ≤ (s[q].toNat : Int)) = true := by simp; omega
      have u1 : decide ((s[q].toNat : Int) ≤ (57 : Int)) = true := by simp; omega
      have hf1 : f < s.size := by omega
      have f0 : (0 : Int) ≤ (f : Int) := by omega
      have f1 : (f : Int) < (s.size : Int) := by omega
      have HLT := hid hlt
      clear h2 h3 h4 hq hlt
      go_wp2_with fail
      go_quiet (fail)
      have H1 := hid (HR.out.drewN nq)
      obtain ⟨d0, d1, -, -⟩ := H1.out.cells
      obtain ⟨-, g1, -, -⟩ := H1.out.free
      obtain ⟨q', hq'⟩ : ∃ q', q + 1 = q' := ⟨_, rfl⟩
      have e1 : (q : Int) + 1 = (q' : Int) := by omega
      have e2 : IntKind.i64.wrap (q' : Int) = (q' : Int) := by rw [IntKind.wrap_i64]; omega
      have HQ' := hid hq'
      clear hq' c0 c1 HR u0 u1
      generalize World.drewN wr nq = wn at *
      by_cases hk1 : k = 1
      · have t2 : ((q : Int) == (f : Int) + 1) = true := by have := HQ.out; simp; omega
        by_cases hz : s[f] = 48
        · have t5 : ((s[f].toNat : Int) == 48) = true := by rw [hz]; rfl
          have HX : Hid (RES = .error ((s.data.toList.drop f).length - 1, 4)) := by
            show _ = _
            rw [HE.out]
            obtain ⟨_, _, _, hd⟩ := run_at (s := s) (f := f) (k := 0) (by have := HLT.out; rw [digs] at this; omega)
            exact J.numR_zeros (by have := HLT.out; omega) (hd.trans hz)
          have HB := hid (bad0 H1.out)
          clear hz
          go_wp2_with fail
          refine HB.out.mono ?_
          rintro en w2 ⟨rfl, hr⟩
          have H2 := hid hr
          clear hr
          go_wp2_with fail
          go_ret
          exact TookN.bad HX.out (by omega) (by have := HQ.out; rw [drop_len]; omega) H2.out
        · have t5 : ((s[f].toNat : Int) == 48) = false := beq_eq_false_iff_ne.2 (fun h => hz (UInt8.toNat_inj.1 (show s[f].toNat = 48 by omega)))
          have HZ2 : Hid (2 ≤ k + 1 → (digs s f)[0]? ≠ some 48) := fun _ h => by
            obtain ⟨_, _, _, hd⟩ := run_at (s := s) (f := f) (k := 0) (by have := HLT.out; rw [digs] at this; omega)
            rw [List.getElem?_eq_getElem (by have := HLT.out; omega)] at h
            exact hz (hd.symm.trans (Option.some.inj h))
          clear hz
          go_wp2_with fail
          go_roundg ((digs s f).length - (k + 1))
          case measure => have := HLT.out; omega
          case rel => exact ⟨k + 1, by have := HLT.out; omega, Nat.le_refl _, hid ⟨HZ2.out, by rw [show f + (k + 1) = q' by have := HQ.out; have := HQ'.out; omega]; exact H1.out.set1 q'⟩⟩
      · have t2 : ((q : Int) == (f : Int) + 1) = false := beq_eq_false_iff_ne.2 (by have := HQ.out; omega)
        have HZ2 : Hid (2 ≤ k + 1 → (digs s f)[0]? ≠ some 48) := fun h => HZ.out (by omega)
        go_wp2_with fail
        go_roundg ((digs s f).length - (k + 1))
        case measure => have := HLT.out; omega
        case rel => exact ⟨k + 1, by have := HLT.out; omega, Nat.le_refl _, hid ⟨HZ2.out, by rw [show f + (k + 1) = q' by have := HQ.out; have := HQ'.out; omega]; exact H1.out.set1 q'⟩⟩
    · have HN : Hid (k = (digs s f).length) := by show _ = _; omega
      have hq2 : q ≤ s.size := by have := digs_le s f; have := HN.out; have := HFS.out; omega
      have hend : (decide ((q : Int) < (s.size : Int)) = false) ∨ ∃ h' : q < s.size, decide ((q : Int) < (s.size : Int)) = true ∧ ((decide ((48 : Int) ≤ ((s[q]'(h')).toNat : Int)) = false) ∨ ((decide ((48 : Int) ≤ ((s[q]'(h')).toNat : Int)) = true) ∧ (decide (((s[q]'(h')).toNat : Int) ≤ 57) = false))) := by
        by_cases h : q < s.size
        · refine Or.inr ⟨h, by simp; omega, ?_⟩
          have hn := run_end (s := s) (f := f) (k := k) HN.out (by omega)
          have hn' : ¬ (48 ≤ (s[q]'h).toNat ∧ (s[q]'h).toNat ≤ 57) := by subst hq; exact hn
          by_cases h48 : 48 ≤ (s[q]'h).toNat
          · exact Or.inr ⟨by simp; omega, by simp; omega⟩
          · exact Or.inl (by simp; omega)
        · exact Or.inl (by simp; omega)
      clear hlt hq
      rcases hend with t0 | ⟨hqs, t0, u0 | ⟨u0, u1⟩⟩
      · have tn : decide (q < s.size) = false := by simpa using t0
        go_wp2_with fail
        go_quiet (fail)
        have H1 := hid (HR.out.drewN nq)
        obtain ⟨d0, d1, -, -⟩ := H1.out.cells
        clear HR c0 c1 t0 tn
        generalize World.drewN wr nq = wn at *
        have c0 := d0
        have c1 := d1
        clear d0 d1
        have HF := hid (fail0 4 (f : Int) H1.out)
        have HB := hid (bad0 H1.out)
        by_cases hk0 : k = 0
        · have t3 : ((q : Int) == (f : Int)) = true := by have := HQ.out; simp; omega
          have HX : Hid (RES = .error ((s.data.toList.drop f).length, 4)) := by
            show _ = _
            rw [HE.out, List.eq_nil_of_length_eq_zero (show (digs s f).length = 0 by have := HN.out; omega), J.numR_none]
          clear HF
          go_wp2_with fail
          refine HB.out.mono ?_
          rintro en w2 ⟨rfl, hr⟩
          have H2 := hid hr
          clear hr
          go_wp2_with fail
          go_ret
          exact TookN.bad HX.out hq2 (by have := HQ.out; rw [drop_len]; omega) H2.out
        · have t3 : ((q : Int) == (f : Int)) = false := beq_eq_false_iff_ne.2 (by have := HQ.out; omega)
          have HT := hid (num_text hp (Or.inr ⟨HM.out, rfl⟩) HN.out)
          rw [HQ.out] at HT
          have HR2 := hid (J.numR_lib (neg := decide (f = f + 1)) (t := s.size - f) (l1 := s.data.toList.drop f) (rest := s.data.toList.drop (f + (digs s f).length)) (show 0 < (digs s f).length by have := HN.out; omega) (digs_all s f) (fun hz => ⟨digs_one HN.out HZ.out hz, by simp⟩))
          rw [← HT.out] at HR2
          have q4 : (0 : Int) ≤ (f : Int) := by omega
          have q5 : (f : Int) ≤ (q : Int) := by have := HQ.out; omega
          have q6 : (q : Int) ≤ (s.size : Int) := by omega
          have HXS : Hid ((s.extract f q).size ≤ 281474976710656) := by show _ ≤ _; rw [ByteArray.size_extract]; omega
          cases hv : Go.Proofs.YtphjfighamadgaaGreatDoor.W.libP (s.extract f q).data.toList with
          | some v =>
            have HX : Hid (RES = .ok (v, s.data.toList.drop (f + (digs s f).length))) := by
              show _ = _
              rw [HE.out, HR2.out, hv]
            have HPA := hid (fun X (hb : Below B w X) => parseInt_some hv HXS.out (hG.errs X hb))
            clear hv HR2 HXS HT HB HF
            go_wp2_with fail
            go_region_held3 (fun w' => w'.cell? ⟨R, 0, none⟩ = some (.string s) ∧ w'.cell? ⟨R, 1, none⟩ = some (.int .i64 (q : Int)))
                (first
                  | assumption
                  | exact ⟨H1.out.drew.cells.1, H1.out.drew.cells.2.1⟩
                  | exact ⟨H4.out.cells.1, H4.out.cells.2.1⟩
                  | fail)
                (first
                  | (go_at_call 67; refine (HPA.out _ (H1.out.drew.base hBR)).mono ?_; rintro en w4 ⟨rfl, hb⟩; (have H4 := hid (H1.out.drew.below hb)); clear hb)
                  | fail)
            all_goals
              go_wp2_with fail
              go_ret
              refine Or.inl ⟨v, _, HX.out, rfl, ?_⟩
              have e : s.size - (s.data.toList.drop (f + (digs s f).length)).length = q := by rw [drop_len]; have := HQ.out; have := HN.out; omega
              rw [e]; exact H4.out
          | none =>
            have HX : Hid (RES = .error (s.size - f, 91)) := by
              show _ = _
              rw [HE.out, HR2.out, hv]
            have HPA := hid (fun X (hb : Below B w X) => parseInt_none hv HXS.out (hG.errs X hb))
            clear hv HR2 HXS HT HB HF
            go_wp2_with fail
            go_region_held3 (fun w' => w'.cell? ⟨R, 0, none⟩ = some (.string s) ∧ w'.cell? ⟨R, 1, none⟩ = some (.int .i64 (q : Int)))
                (first
                  | assumption
                  | exact ⟨H1.out.drew.cells.1, H1.out.drew.cells.2.1⟩
                  | exact ⟨H4.out.cells.1, H4.out.cells.2.1⟩
                  | fail)
                (first
                  | (go_at_call 67; refine (HPA.out _ (H1.out.drew.base hBR)).mono ?_; rintro en w4 ⟨x, N, rfl, hb⟩; (have H4 := hid (H1.out.drew.below hb)); clear hb)
                  | fail)
            all_goals
              have HF := hid (fail0 91 (f : Int) H4.out)
              go_wp2_with fail
              refine HF.out.mono ?_
              rintro en w5 ⟨rfl, hr⟩
              have H5 := hid hr
              clear hr
              go_wp2_with fail
              go_ret
              exact TookN.bad HX.out hq2 (by omega) H5.out
      · have q1 : (q : Int) < (s.size : Int) := by omega
        go_wp2_with fail
        go_quiet (fail)
        have H1 := hid (HR.out.drewN nq)
        obtain ⟨d0, d1, -, -⟩ := H1.out.cells
        clear HR c0 c1 t0 u0
        generalize World.drewN wr nq = wn at *
        have c0 := d0
        have c1 := d1
        clear d0 d1
        have HF := hid (fail0 4 (f : Int) H1.out)
        have HB := hid (bad0 H1.out)
        by_cases hk0 : k = 0
        · have t3 : ((q : Int) == (f : Int)) = true := by have := HQ.out; simp; omega
          have HX : Hid (RES = .error ((s.data.toList.drop f).length, 4)) := by
            show _ = _
            rw [HE.out, List.eq_nil_of_length_eq_zero (show (digs s f).length = 0 by have := HN.out; omega), J.numR_none]
          clear HF
          go_wp2_with fail
          refine HB.out.mono ?_
          rintro en w2 ⟨rfl, hr⟩
          have H2 := hid hr
          clear hr
          go_wp2_with fail
          go_ret
          exact TookN.bad HX.out hq2 (by have := HQ.out; rw [drop_len]; omega) H2.out
        · have t3 : ((q : Int) == (f : Int)) = false := beq_eq_false_iff_ne.2 (by have := HQ.out; omega)
          have HT := hid (num_text hp (Or.inr ⟨HM.out, rfl⟩) HN.out)
          rw [HQ.out] at HT
          have HR2 := hid (J.numR_lib (neg := decide (f = f + 1)) (t := s.size - f) (l1 := s.data.toList.drop f) (rest := s.data.toList.drop (f + (digs s f).length)) (show 0 < (digs s f).length by have := HN.out; omega) (digs_all s f) (fun hz => ⟨digs_one HN.out HZ.out hz, by simp⟩))
          rw [← HT.out] at HR2
          have q4 : (0 : Int) ≤ (f : Int) := by omega
          have q5 : (f : Int) ≤ (q : Int) := by have := HQ.out; omega
          have q6 : (q : Int) ≤ (s.size : Int) := by omega
          have HXS : Hid ((s.extract f q).size ≤ 281474976710656) := by show _ ≤ _; rw [ByteArray.size_extract]; omega
          cases hv : Go.Proofs.YtphjfighamadgaaGreatDoor.W.libP (s.extract f q).data.toList with
          | some v =>
            have HX : Hid (RES = .ok (v, s.data.toList.drop (f + (digs s f).length))) := by
              show _ = _
              rw [HE.out, HR2.out, hv]
            have HPA := hid (fun X (hb : Below B w X) => parseInt_some hv HXS.out (hG.errs X hb))
            clear hv HR2 HXS HT HB HF
            go_wp2_with fail
            go_region_held3 (fun w' => w'.cell? ⟨R, 0, none⟩ = some (.string s) ∧ w'.cell? ⟨R, 1, none⟩ = some (.int .i64 (q : Int)))
                (first
                  | assumption
                  | exact ⟨H1.out.drew.cells.1, H1.out.drew.cells.2.1⟩
                  | exact ⟨H4.out.cells.1, H4.out.cells.2.1⟩
                  | fail)
                (first
                  | (go_at_call 67; refine (HPA.out _ (H1.out.drew.base hBR)).mono ?_; rintro en w4 ⟨rfl, hb⟩; (have H4 := hid (H1.out.drew.below hb)); clear hb)
                  | fail)
            all_goals
              go_wp2_with fail
              go_ret
              refine Or.inl ⟨v, _, HX.out, rfl, ?_⟩
              have e : s.size - (s.data.toList.drop (f + (digs s f).length)).length = q := by rw [drop_len]; have := HQ.out; have := HN.out; omega
              rw [e]; exact H4.out
          | none =>
            have HX : Hid (RES = .error (s.size - f, 91)) := by
              show _ = _
              rw [HE.out, HR2.out, hv]
            have HPA := hid (fun X (hb : Below B w X) => parseInt_none hv HXS.out (hG.errs X hb))
            clear hv HR2 HXS HT HB HF
            go_wp2_with fail
            go_region_held3 (fun w' => w'.cell? ⟨R, 0, none⟩ = some (.string s) ∧ w'.cell? ⟨R, 1, none⟩ = some (.int .i64 (q : Int)))
                (first
                  | assumption
                  | exact ⟨H1.out.drew.cells.1, H1.out.drew.cells.2.1⟩
                  | exact ⟨H4.out.cells.1, H4.out.cells.2.1⟩
                  | fail)
                (first
                  | (go_at_call 67; refine (HPA.out _ (H1.out.drew.base hBR)).mono ?_; rintro en w4 ⟨x, N, rfl, hb⟩; (have H4 := hid (H1.out.drew.below hb)); clear hb)
                  | fail)
            all_goals
              have HF := hid (fail0 91 (f : Int) H4.out)
              go_wp2_with fail
              refine HF.out.mono ?_
              rintro en w5 ⟨rfl, hr⟩
              have H5 := hid hr
              clear hr
              go_wp2_with fail
              go_ret
              exact TookN.bad HX.out hq2 (by omega) H5.out
      · have q1 : (q : Int) < (s.size : Int) := by omega
        go_wp2_with fail
        go_quiet (fail)
        have H1 := hid (HR.out.drewN nq)
        obtain ⟨d0, d1, -, -⟩ := H1.out.cells
        clear HR c0 c1 t0 u0 u1
        generalize World.drewN wr nq = wn at *
        have c0 := d0
        have c1 := d1
        clear d0 d1
        have HF := hid (fail0 4 (f : Int) H1.out)
        have HB := hid (bad0 H1.out)
        by_cases hk0 : k = 0
        · have t3 : ((q : Int) == (f : Int)) = true := by have := HQ.out; simp; omega
          have HX : Hid (RES = .error ((s.data.toList.drop f).length, 4)) := by
            show _ = _
            rw [HE.out, List.eq_nil_of_length_eq_zero (show (digs s f).length = 0 by have := HN.out; omega), J.numR_none]
          clear HF
          go_wp2_with fail
          refine HB.out.mono ?_
          rintro en w2 ⟨rfl, hr⟩
          have H2 := hid hr
          clear hr
          go_wp2_with fail
          go_ret
          exact TookN.bad HX.out hq2 (by have := HQ.out; rw [drop_len]; omega) H2.out
        · have t3 : ((q : Int) == (f : Int)) = false := beq_eq_false_iff_ne.2 (by have := HQ.out; omega)
          have HT := hid (num_text hp (Or.inr ⟨HM.out, rfl⟩) HN.out)
          rw [HQ.out] at HT
          have HR2 := hid (J.numR_lib (neg := decide (f = f + 1)) (t := s.size - f) (l1 := s.data.toList.drop f) (rest := s.data.toList.drop (f + (digs s f).length)) (show 0 < (digs s f).length by have := HN.out; omega) (digs_all s f) (fun hz => ⟨digs_one HN.out HZ.out hz, by simp⟩))
          rw [← HT.out] at HR2
          have q4 : (0 : Int) ≤ (f : Int) := by omega
          have q5 : (f : Int) ≤ (q : Int) := by have := HQ.out; omega
          have q6 : (q : Int) ≤ (s.size : Int) := by omega
          have HXS : Hid ((s.extract f q).size ≤ 281474976710656) := by show _ ≤ _; rw [ByteArray.size_extract]; omega
          cases hv : Go.Proofs.YtphjfighamadgaaGreatDoor.W.libP (s.extract f q).data.toList with
          | some v =>
            have HX : Hid (RES = .ok (v, s.data.toList.drop (f + (digs s f).length))) := by
              show _ = _
              rw [HE.out, HR2.out, hv]
            have HPA := hid (fun X (hb : Below B w X) => parseInt_some hv HXS.out (hG.errs X hb))
            clear hv HR2 HXS HT HB HF
            go_wp2_with fail
            go_region_held3 (fun w' => w'.cell? ⟨R, 0, none⟩ = some (.string s) ∧ w'.cell? ⟨R, 1, none⟩ = some (.int .i64 (q : Int)))
                (first
                  | assumption
                  | exact ⟨H1.out.drew.cells.1, H1.out.drew.cells.2.1⟩
                  | exact ⟨H4.out.cells.1, H4.out.cells.2.1⟩
                  | fail)
                (first
                  | (go_at_call 67; refine (HPA.out _ (H1.out.drew.base hBR)).mono ?_; rintro en w4 ⟨rfl, hb⟩; (have H4 := hid (H1.out.drew.below hb)); clear hb)
                  | fail)
            all_goals
              go_wp2_with fail
              go_ret
              refine Or.inl ⟨v, _, HX.out, rfl, ?_⟩
              have e : s.size - (s.data.toList.drop (f + (digs s f).length)).length = q := by rw [drop_len]; have := HQ.out; have := HN.out; omega
              rw [e]; exact H4.out
          | none =>
            have HX : Hid (RES = .error (s.size - f, 91)) := by
              show _ = _
              rw [HE.out, HR2.out, hv]
            have HPA := hid (fun X (hb : Below B w X) => parseInt_none hv HXS.out (hG.errs X hb))
            clear hv HR2 HXS HT HB HF
            go_wp2_with fail
            go_region_held3 (fun w' => w'.cell? ⟨R, 0, none⟩ = some (.string s) ∧ w'.cell? ⟨R, 1, none⟩ = some (.int .i64 (q : Int)))
                (first
                  | assumption
                  | exact ⟨H1.out.drew.cells.1, H1.out.drew.cells.2.1⟩
                  | exact ⟨H4.out.cells.1, H4.out.cells.2.1⟩
                  | fail)
                (first
                  | (go_at_call 67; refine (HPA.out _ (H1.out.drew.base hBR)).mono ?_; rintro en w4 ⟨x, N, rfl, hb⟩; (have H4 := hid (H1.out.drew.below hb)); clear hb)
                  | fail)
            all_goals
              have HF := hid (fail0 91 (f : Int) H4.out)
              go_wp2_with fail
              refine HF.out.mono ?_
              rintro en w5 ⟨rfl, hr⟩
              have H5 := hid hr
              clear hr
              go_wp2_with fail
              go_ret
              exact TookN.bad HX.out hq2 (by omega) H5.out
theorem number_any {w : World} {B R p : Nat} {s : ByteArray} {W : World} (h : Rdr w R s p 0 0 W) (hp : p < s.size) (hs : s.size ≤ 140737488355328) (hG : Ground B w) (hBR : B ≤ R) :
    Calls Tryz.prog 44 #[.pointer (some ⟨R, 0, none⟩)] W (TookN w R s (J.num (s.data.toList.drop p))) := by
  by_cases hm : s[p] = 45
  · exact number_neg h hp hs hG hBR hm
  · exact number_pos h hp hs hG hBR hm
end Go.Proofs.YtphjfighamadgaaGreatDoor
