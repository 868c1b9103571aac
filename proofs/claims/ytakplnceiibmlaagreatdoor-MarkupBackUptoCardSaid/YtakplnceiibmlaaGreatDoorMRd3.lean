/- The reader: comments, what stands around, parts of names, names. -/
import Derived.Test.YtakplnceiibmlaaGreatDoorMRd2
namespace Go.Proofs.YtakplnceiibmlaaGreatDoor
open Go.RowKit
open Go.Lib (hid)
/-- the reader's place, out of memory -/
def posOf (W : World) (R : Nat) : Nat := match W.cell? ⟨R, 1, none⟩ with | some (.int _ v) => v.toNat | _ => 0
theorem Rd.pos {w W : World} {R p c : Nat} {s : ByteArray} (h : Rd w R s p c W) : posOf W R = p := by unfold posOf; rw [h.cells.2.1]; simp
theorem X.skip_skip (l : List UInt8) : X.skip (X.skip l) = X.skip l := by
  unfold X.skip
  induction l with
  | nil => rfl
  | cons c r ih =>
    rw [List.dropWhile_cons]
    split
    · exact ih
    · rename_i h; rw [List.dropWhile_cons, if_neg h]
theorem take_l {R p c k : Nat} {s : ByteArray} {W : World} (l : List UInt8) (t : ByteArray) (hl : t.data.toList = l) (hk : t.size = k) (h : Rd W R s p c W) (hp : p ≤ s.size) (hs : s.size ≤ 1000000000000) :
    Calls Tryz.prog 18 #[.pointer (some ⟨R, 0, none⟩), .string t] W fun en W' => (l.isPrefixOf (rest s p) = true ∧ p + k ≤ s.size ∧ en = .returned (.bool true) ∧ Rd W R s (p + k) c W') ∨ (l.isPrefixOf (rest s p) = false ∧ en = .returned (.bool false) ∧ Below W.heap.size W W') := by
  have := take_any t h hp hs
  rw [hl, hk] at this
  exact this
theorem next_l {R p c : Nat} {s : ByteArray} {W : World} (l : List UInt8) (t : ByteArray) (hl : t.data.toList = l) (h : Rd W R s p c W) (hp : p ≤ s.size) :
    Calls Tryz.prog 20 #[.pointer (some ⟨R, 0, none⟩), .string t] W fun en W' => en = .returned (.bool (l.isPrefixOf (rest s p))) ∧ Below W.heap.size W W' := by
  have := next_any t h hp
  rw [hl] at this
  exact this
theorem must_l {R p c : Nat} {s : ByteArray} {W : World} (l : List UInt8) (t : ByteArray) (hl : t.data.toList = l) (h : Rd W R s p c W) (hp : p ≤ s.size) (hs : s.size ≤ 1000000000000) :
    Calls Tryz.prog 36 #[.pointer (some ⟨R, 0, none⟩), .string t] W (Ends W R s c (X.must l (rest s p)) (fun _ => .tuple #[])) := by
  have := must_any t h hp hs
  rw [hl] at this
  exact this
theorem Ends.of {α : Type} {w W W' : World} {R c p : Nat} {s : ByteArray} {x : X.Res α} {f : α → Value} {en : Ending} (h : Rd w R s p c W) (g : Ends W R s c x f en W') : Ends w R s c x f en W' := by
  rcases g with ⟨a, r, h1, h2, h3⟩ | ⟨n, e, h1, h2, h3⟩
  · exact Or.inl ⟨a, r, h1, h2, h.trans h3⟩
  · exact Or.inr ⟨n, e, h1, h2, h.g.trans h3⟩
set_option maxRecDepth 100000 in
set_option maxHeartbeats 2000000 in
theorem comment_any {R p c B : Nat} {s : ByteArray} {W : World} (f : Nat) (hf : s.size - p < f) (h : Rd W R s p c W) (hp : p ≤ s.size) (hs : s.size ≤ 1000000000000) (hG : Ground B W) (hB : B ≤ R) :
    Calls Tryz.prog 33 #[.pointer (some ⟨R, 0, none⟩)] W (Ends W R s c (X.comment f (rest s p)) (fun _ => .tuple #[])) := by
  obtain ⟨RES, hRES⟩ : ∃ x, X.comment f (rest s p) = x := ⟨_, rfl⟩
  rw [hRES]
  have HI0 : Hid (s.size - p < f ∧ p ≤ s.size ∧ X.comment f (rest s p) = RES) := ⟨hf, hp, hRES⟩
  have HR := hid h
  have HG := hid hG
  clear h hf hp hRES hG
  go_enter Tryz.func33, Tryz.ntmps33
  go_wp2_with fail
  go_loopw [] (fun wr => ∃ (q k : Nat), Hid (s.size - q < k ∧ q ≤ s.size ∧ X.comment k (rest s q) = RES) ∧ Hid (Rd W R s q c wr)) (fun wr => s.size - posOf wr R)
  case atStart => exact ⟨p, f, HI0, HR⟩
  case round =>
    obtain ⟨q, k, HI, HQ⟩ := hrel
    clear HI0 HR
    obtain ⟨h1, h2, h3⟩ := HI.out
    obtain ⟨k, rfl⟩ : ∃ k', k = k' + 1 := ⟨k - 1, by omega⟩
    have cT := take_any ⟨#[45, 45, 62]⟩ HQ.out.own h2 hs
    have HPOS := hid HQ.out.pos
    clear h1 h3
    go_wp2_with fail
    refine cT.mono ?_
    rintro e w1 (⟨g1, g2, rfl, g3⟩ | ⟨g1, rfl, g3⟩)
    · have HE : Hid (RES = .ok ((), rest s (q + 3)) ∧ s.size - (rest s (q + 3)).length = q + 3) := by
        refine ⟨?_, by have : q + 3 ≤ s.size := g2; rw [rest_len]; omega⟩
        rw [← HI.out.2.2, X.comment, if_pos (show [45, 45, 62].isPrefixOf (rest s q) = true from g1), rest_drop]
      have H1 := hid (HQ.out.trans g3)
      clear g1 g2 g3 cT
      go_wp2_with fail
      go_end0
      exact Or.inl ⟨(), _, HE.out.1, rfl, by rw [HE.out.2]; exact H1.out⟩
    · have H1 := hid (HQ.out.below g3)
      have hn1 : ¬ [45, 45, 62].isPrefixOf (rest s q) = true := by rw [show [45, 45, 62].isPrefixOf (rest s q) = false from g1]; decide
      have cN := next_any ⟨#[45, 45]⟩ H1.out.own h2
      rw [show (⟨#[45, 45]⟩ : ByteArray).data.toList.isPrefixOf (rest s q) = [45, 45].isPrefixOf (rest s q) from rfl] at cN
      cases hb : [45, 45].isPrefixOf (rest s q)
      · rw [hb] at cN
        have HE : Hid (RES = (match X.char (rest s q) with | .error e => .error e | .ok (_, r) => X.comment k r)) := by
          show _ = _
          rw [← HI.out.2.2, X.comment, if_neg hn1, hb]
          rfl
        have hfair := X.char_fair (rest s q)
        have cC := fun w' (h : Rd w' R s q c w') (g : Ground B w') => char_any h h2 hs g
        have HF := hid hfair
        clear g1 g3 cT hn1 hb hfair
        go_wp2_with fail
        refine cN.mono ?_
        rintro e w2 ⟨rfl, hbl⟩
        have H2 := hid (H1.out.below hbl)
        clear hbl cN
        go_wp2_with fail
        refine (cC _ H2.out.own (HG.out.rd H2.out hB)).mono ?_
        rintro e w3 (⟨x, r, hx, rfl, hr⟩ | ⟨n, e, hx, rfl, hr⟩)
        · have hsuf := (HF.out.1 _ _ hx).1
          have hlen := (HF.out.1 _ _ hx).2
          rw [rest_len] at hlen
          have hpos := rest_pos hsuf h2
          have H3 : Hid (s.size - (s.size - r.length) < k ∧ s.size - r.length ≤ s.size ∧ X.comment k (rest s (s.size - r.length)) = RES) := by
            refine ⟨by have := HI.out.1; omega, by omega, ?_⟩
            rw [HE.out, hx, ← rest_suf hsuf]
          have H4 := hid (H2.out.trans hr)
          have H5 : Hid (s.size - (s.size - r.length) < s.size - q) := by show _ < _; omega
          clear hx hr hsuf hlen hpos cC HE HF
          go_wp2_with fail
          go_roundw
          case rel => exact ⟨_, k, H3, H4⟩
          case measure => rw [H4.out.pos, HPOS.out]; exact H5.out
        · have HE2 : Hid (RES = .error (n, e)) := by show _ = _; rw [HE.out, hx]
          exact ⟨rfl, Or.inr ⟨_, _, HE2.out, rfl, H2.out.g.trans hr⟩⟩
      · rw [hb] at cN
        have HE : Hid (RES = .error (X.bad (rest s q))) := by
          show _ = _
          rw [← HI.out.2.2, X.comment, if_neg hn1, if_pos hb]
        have cB := fun w' (h : Rd w' R s q c w') => bad_any h h2
        clear g1 g3 cT hn1 hb
        go_wp2_with fail
        refine cN.mono ?_
        rintro e w2 ⟨rfl, hbl⟩
        have H2 := hid (H1.out.below hbl)
        clear hbl cN
        go_wp2_with fail
        refine (cB _ H2.out.own).mono ?_
        rintro e w3 ⟨rfl, hbl⟩
        exact ⟨rfl, Or.inr ⟨_, _, HE.out, rfl, (H2.out.below hbl).g⟩⟩
set_option maxRecDepth 100000 in
set_option maxHeartbeats 2000000 in
theorem misc_any {R p c B : Nat} {s : ByteArray} {W : World} (f : Nat) (hf : s.size - p < f) (h : Rd W R s p c W) (hp : p ≤ s.size) (hs : s.size ≤ 1000000000000) (hG : Ground B W) (hB : B ≤ R) :
    Calls Tryz.prog 19 #[.pointer (some ⟨R, 0, none⟩)] W (Ends W R s c (X.misc f (rest s p)) (fun _ => .tuple #[])) := by
  obtain ⟨RES, hRES⟩ : ∃ x, X.misc f (rest s p) = x := ⟨_, rfl⟩
  rw [hRES]
  have cB0 := blanks_any h hp hs
  have hsk := X.Suf.skip (rest s p)
  have hpos := rest_pos hsk hp
  obtain ⟨q, hq⟩ : ∃ q, s.size - (X.skip (rest s p)).length = q := ⟨_, rfl⟩
  have hqe : X.skip (rest s p) = rest s q := by rw [← hq]; exact rest_suf hsk
  rw [hq] at cB0 hpos
  have hidem : X.skip (rest s q) = rest s q := by rw [← hqe]; exact X.skip_skip _
  obtain ⟨f, rfl⟩ : ∃ f', f = f' + 1 := ⟨f - 1, by omega⟩
  have HI0 : Hid (s.size - q < f + 1 ∧ q ≤ s.size ∧ X.skip (rest s q) = rest s q ∧ X.misc (f + 1) (rest s q) = RES) := by
    refine ⟨by omega, hpos.2, hidem, ?_⟩
    rw [← hRES, X.misc, X.misc, hidem, hqe]
  have HR := hid h
  have HG := hid hG
  clear h hf hp hRES hG hsk hpos hqe hidem hq
  go_enter Tryz.func19, Tryz.ntmps19
  go_wp2_with fail
  refine cB0.mono ?_
  rintro e w0 ⟨rfl, hr0⟩
  have HR0 := hid (HR.out.trans hr0)
  clear hr0 cB0
  go_wp2_with fail
  go_loopw [] (fun wr => ∃ (q k : Nat), Hid (s.size - q < k ∧ q ≤ s.size ∧ X.skip (rest s q) = rest s q ∧ X.misc k (rest s q) = RES) ∧ Hid (Rd W R s q c wr)) (fun wr => s.size - posOf wr R)
  case atStart => exact ⟨q, f + 1, HI0, HR0⟩
  case round =>
    obtain ⟨q, k, HI, HQ⟩ := hrel
    clear HI0 HR HR0
    obtain ⟨h1, h2, h0, h3⟩ := HI.out
    obtain ⟨k, rfl⟩ : ∃ k', k = k' + 1 := ⟨k - 1, by omega⟩
    have cT := take_l (k := 4) [60, 33, 45, 45] ⟨#[60, 33, 45, 45]⟩ rfl rfl HQ.out.own h2 hs
    have HPOS := hid HQ.out.pos
    clear h1 h0 h3
    go_wp2_with fail
    refine cT.mono ?_
    rintro e w1 (⟨g1, g2, rfl, g3⟩ | ⟨g1, rfl, g3⟩)
    · have HE : Hid (RES = (match X.comment ((rest s q).length + 1) (rest s (q + 4)) with | .error e => .error e | .ok (_, r) => X.misc k r)) := by
        show _ = _
        rw [← HI.out.2.2.2, X.misc, HI.out.2.2.1, if_pos g1, rest_drop]
        rfl
      have H1 := hid (HQ.out.trans g3)
      have cC := comment_any ((rest s q).length + 1) (by rw [rest_len]; omega) H1.out.own g2 hs (HG.out.rd H1.out hB) hB
      have HF := hid (X.comment_fair ((rest s q).length + 1) (rest s (q + 4)))
      have cBl := fun w' p' (h : Rd w' R s p' c w') (hp : p' ≤ s.size) => blanks_any h hp hs
      clear g1 g3 cT
      go_wp2_with fail
      refine cC.mono ?_
      rintro e w2 (⟨x, r, hx, rfl, hr⟩ | ⟨n, e, hx, rfl, hr⟩)
      · have hsuf := (HF.out.1 _ _ hx).1
        have hlen := hsuf.len
        rw [rest_len] at hlen
        have hpos := rest_pos hsuf g2
        have hre := rest_suf hsuf
        obtain ⟨u, hu⟩ : ∃ u, s.size - r.length = u := ⟨_, rfl⟩
        rw [hu] at hr hpos hre
        have H2 := hid (H1.out.trans hr)
        have hsk := X.Suf.skip (rest s u)
        have hpos2 := rest_pos hsk hpos.2
        have hre2 := rest_suf hsk
        have cB1 := cBl _ _ H2.out.own hpos.2
        obtain ⟨v, hv⟩ : ∃ v, s.size - (X.skip (rest s u)).length = v := ⟨_, rfl⟩
        rw [hv] at hpos2 hre2 cB1
        have hidem : X.skip (rest s v) = rest s v := by rw [← hre2]; exact X.skip_skip _
        have H3 : Hid (s.size - v < k ∧ v ≤ s.size ∧ X.skip (rest s v) = rest s v ∧ X.misc k (rest s v) = RES) := by
          refine ⟨by have := HI.out.1; omega, hpos2.2, hidem, ?_⟩
          rw [HE.out, hx]
          show _ = X.misc k r
          rw [hre]
          obtain ⟨k0, hk0⟩ : ∃ k0, k = k0 + 1 := ⟨k - 1, by have := HI.out.1; omega⟩
          rw [hk0, X.misc, X.misc, hidem, hre2]
        have H5 : Hid (s.size - v < s.size - q) := by show _ < _; omega
        clear hx hr hsuf hlen hpos hre hsk hpos2 hre2 hidem hu hv cBl HE HF cC
        go_wp2_with fail
        refine cB1.mono ?_
        rintro e w3 ⟨rfl, hr3⟩
        have H4 := hid (H2.out.trans hr3)
        clear hr3 cB1
        go_wp2_with fail
        go_roundw
        case rel => exact ⟨_, k, H3, H4⟩
        case measure => rw [H4.out.pos, HPOS.out]; exact H5.out
      · have HE2 : Hid (RES = .error (n, e)) := by show _ = _; rw [HE.out, hx]
        exact ⟨rfl, Or.inr ⟨_, _, HE2.out, rfl, H1.out.g.trans hr⟩⟩
    · have H1 := hid (HQ.out.below g3)
      have HE : Hid (RES = .ok ((), rest s q) ∧ s.size - (rest s q).length = q) := by
        refine ⟨?_, by rw [rest_len]; omega⟩
        rw [← HI.out.2.2.2, X.misc, HI.out.2.2.1, if_neg (by rw [g1]; decide)]
      clear g1 g3 cT
      go_wp2_with fail
      go_end0
      exact Or.inl ⟨(), _, HE.out.1, rfl, by rw [HE.out.2]; exact H1.out⟩
set_option maxRecDepth 100000 in
theorem letter_any (c : UInt8) (W : World) : Calls Tryz.prog 54 #[.int .u8 c.toNat] W fun en W' => en = .returned (.bool (X.letter c)) ∧ W' = W := by
  obtain ⟨n, hn⟩ : ∃ n, c.toNat = n := ⟨_, rfl⟩
  have hL : X.letter c = (decide (97 ≤ n ∧ n ≤ 122) || decide (65 ≤ n ∧ n ≤ 90) || decide (n = 95)) := by unfold X.letter; rw [hn]
  rw [hL, hn]
  clear hL hn c
  have hcl : (97 ≤ n ∧ n ≤ 122) ∨ (122 < n) ∨ (65 ≤ n ∧ n ≤ 90) ∨ n = 95 ∨ (90 < n ∧ n < 97 ∧ n ≠ 95) ∨ n < 65 := by omega
  rcases hcl with h | h | h | h | h | h
  · rw [show (decide (97 ≤ n ∧ n ≤ 122) || decide (65 ≤ n ∧ n ≤ 90) || decide (n = 95)) = true by simp; omega]
    have ta : decide ((97 : Int) ≤ (n : Int)) = true := decide_eq_true (by omega)
    have tb : decide ((n : Int) ≤ 122) = true := decide_eq_true (by omega)
    have td : decide ((65 : Int) ≤ (n : Int)) = true := decide_eq_true (by omega)
    have te : decide ((n : Int) ≤ 90) = false := decide_eq_false (by omega)
    have q : ((n : Int) == 95) = false := beq_eq_false_iff_ne.2 (by omega)
    clear h
    go_enter Tryz.func54, Tryz.ntmps54
    go_wp2
    go_ret
    exact ⟨rfl, rfl⟩
  · rw [show (decide (97 ≤ n ∧ n ≤ 122) || decide (65 ≤ n ∧ n ≤ 90) || decide (n = 95)) = false by simp; omega]
    have ta : decide ((97 : Int) ≤ (n : Int)) = true := decide_eq_true (by omega)
    have tb : decide ((n : Int) ≤ 122) = false := decide_eq_false (by omega)
    have td : decide ((65 : Int) ≤ (n : Int)) = true := decide_eq_true (by omega)
    have te : decide ((n : Int) ≤ 90) = false := decide_eq_false (by omega)
    have q : ((n : Int) == 95) = false := beq_eq_false_iff_ne.2 (by omega)
    clear h
    go_enter Tryz.func54, Tryz.ntmps54
    go_wp2
    go_ret
    exact ⟨rfl, rfl⟩
  · rw [show (decide (97 ≤ n ∧ n ≤ 122) || decide (65 ≤ n ∧ n ≤ 90) || decide (n = 95)) = true by simp; omega]
    have ta : decide ((97 : Int) ≤ (n : Int)) = false := decide_eq_false (by omega)
    have tb : decide ((n : Int) ≤ 122) = true := decide_eq_true (by omega)
    have td : decide ((65 : Int) ≤ (n : Int)) = true := decide_eq_true (by omega)
    have te : decide ((n : Int) ≤ 90) = true := decide_eq_true (by omega)
    have q : ((n : Int) == 95) = false := beq_eq_false_iff_ne.2 (by omega)
    clear h
    go_enter Tryz.func54, Tryz.ntmps54
    go_wp2
    go_ret
    exact ⟨rfl, rfl⟩
  · rw [show (decide (97 ≤ n ∧ n ≤ 122) || decide (65 ≤ n ∧ n ≤ 90) || decide (n = 95)) = true by subst h; rfl]
    have ta : decide ((97 : Int) ≤ (n : Int)) = false := decide_eq_false (by omega)
    have tb : decide ((n : Int) ≤ 122) = true := decide_eq_true (by omega)
    have td : decide ((65 : Int) ≤ (n : Int)) = true := decide_eq_true (by omega)
    have te : decide ((n : Int) ≤ 90) = false := decide_eq_false (by omega)
    have q : ((n : Int) == 95) = true := by simp [h]
    clear h
    go_enter Tryz.func54, Tryz.ntmps54
    go_wp2
    go_ret
    exact ⟨rfl, rfl⟩
  · rw [show (decide (97 ≤ n ∧ n ≤ 122) || decide (65 ≤ n ∧ n ≤ 90) || decide (n = 95)) = false by simp; omega]
    have ta : decide ((97 : Int) ≤ (n : Int)) = false := decide_eq_false (by omega)
    have tb : decide ((n : Int) ≤ 122) = true := decide_eq_true (by omega)
    have td : decide ((65 : Int) ≤ (n : Int)) = true := decide_eq_true (by omega)
    have te : decide ((n : Int) ≤ 90) = false := decide_eq_false (by omega)
    have q : ((n : Int) == 95) = false := beq_eq_false_iff_ne.2 (by omega)
    clear h
    go_enter Tryz.func54, Tryz.ntmps54
    go_wp2
    go_ret
    exact ⟨rfl, rfl⟩
  · rw [show (decide (97 ≤ n ∧ n ≤ 122) || decide (65 ≤ n ∧ n ≤ 90) || decide (n = 95)) = false by simp; omega]
    have ta : decide ((97 : Int) ≤ (n : Int)) = false := decide_eq_false (by omega)
    have tb : decide ((n : Int) ≤ 122) = true := decide_eq_true (by omega)
    have td : decide ((65 : Int) ≤ (n : Int)) = false := decide_eq_false (by omega)
    have te : decide ((n : Int) ≤ 90) = true := decide_eq_true (by omega)
    have q : ((n : Int) == 95) = false := beq_eq_false_iff_ne.2 (by omega)
    clear h
    go_enter Tryz.func54, Tryz.ntmps54
    go_wp2
    go_ret
    exact ⟨rfl, rfl⟩
end Go.Proofs.YtakplnceiibmlaaGreatDoor
