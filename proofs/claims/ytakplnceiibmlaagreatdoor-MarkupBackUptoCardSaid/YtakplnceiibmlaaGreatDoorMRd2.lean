/- The reader: blanks, characters, comments, what stands around. -/
import Derived.Test.YtakplnceiibmlaaGreatDoorMGround
import Derived.Test.YtakplnceiibmlaaGreatDoorJChr
import Derived.Test.YtakplnceiibmlaaGreatDoorVQuiet
namespace Go.Proofs.YtakplnceiibmlaaGreatDoor
open Go.RowKit
open Go.Lib (hid)
theorem X.trim_skip (l : List UInt8) : Lib.trimLeftS l [32, 9, 13, 10] = X.skip l := by
  unfold Lib.trimLeftS X.skip
  congr 1
  funext c
  rw [Bool.eq_iff_iff]
  simp only [X.blank, List.contains_cons, List.contains_nil, Bool.or_eq_true, beq_iff_eq, Bool.or_false, or_assoc]
theorem rest_suf {s : ByteArray} {p : Nat} {r : List UInt8} (h : X.Suf r (rest s p)) : r = rest s (s.size - r.length) := by
  have h1 := h.eq_drop
  have h2 := h.len
  rw [rest_len] at h1 h2
  by_cases hp : p ≤ s.size
  · rw [rest_drop] at h1
    rw [show s.size - r.length = p + (s.size - p - r.length) by omega]; exact h1
  · have : r = [] := List.eq_nil_of_length_eq_zero (by omega)
    subst this
    exact ((rest_nil s _).2 (by simp)).symm
theorem rest_pos {s : ByteArray} {p : Nat} {r : List UInt8} (h : X.Suf r (rest s p)) (hp : p ≤ s.size) : p ≤ s.size - r.length ∧ s.size - r.length ≤ s.size := by
  have h2 := h.len
  rw [rest_len] at h2
  omega
theorem trim_at (s : ByteArray) (p : Nat) : ∃ t : ByteArray, t.size = (X.skip (rest s p)).length ∧ ∀ U, Calls Tryz.prog 50 #[.string (s.extract p s.size), .string ⟨#[32, 9, 13, 10]⟩] U fun e w' => e = .returned (.string t) ∧ Below U.heap.size U w' := by
  refine ⟨⟨(X.skip (rest s p)).toArray⟩, by show (X.skip (rest s p)).toArray.size = _; simp, fun U => ?_⟩
  have h := Tryz.strings_TrimLeft_set (s.extract p s.size) ⟨#[32, 9, 13, 10]⟩ U (by decide) (by
    intro j b hj
    have : (⟨#[32, 9, 13, 10]⟩ : ByteArray).data.toList = [32, 9, 13, 10] := rfl
    rw [this] at hj
    have hm := List.mem_of_getElem? hj
    simp only [List.mem_cons, List.not_mem_nil, or_false] at hm
    rcases hm with rfl | rfl | rfl | rfl <;> decide)
  rw [ext_rest, show (⟨#[32, 9, 13, 10]⟩ : ByteArray).data.toList = [32, 9, 13, 10] from rfl, X.trim_skip] at h
  exact h
set_option maxRecDepth 100000 in
set_option maxHeartbeats 1000000 in
theorem blanks_any {R p c : Nat} {s : ByteArray} {W : World} (h : Rd W R s p c W) (hp : p ≤ s.size) (hs : s.size ≤ 1000000000000) :
    Calls Tryz.prog 32 #[.pointer (some ⟨R, 0, none⟩)] W fun en W' => en = .returned (.bool (decide (p < s.size - (X.skip (rest s p)).length))) ∧ Rd W R s (s.size - (X.skip (rest s p)).length) c W' := by
  obtain ⟨t, ht, cT⟩ := trim_at s p
  have hq := rest_pos (X.Suf.skip (rest s p)) hp
  have hsk := (X.Suf.skip (rest s p)).len
  rw [rest_len] at hsk
  obtain ⟨q, hqe⟩ : ∃ q, s.size - (X.skip (rest s p)).length = q := ⟨_, rfl⟩
  have e1 : (s.size : Int) - (t.size : Int) = (q : Int) := by omega
  rw [hqe] at hq ⊢
  have e2 : IntKind.i64.wrap (q : Int) = (q : Int) := by rw [IntKind.wrap_i64]; omega
  have P0 : (0 : Int) ≤ (p : Int) := by omega
  have P1 : (p : Int) ≤ (s.size : Int) := by omega
  have HT := hid cT
  have HR := hid h
  obtain ⟨c0, c1, -⟩ := h.cells
  clear cT h ht hqe hsk hq
  go_enter Tryz.func32, Tryz.ntmps32
  go_wp2_with fail
  go_region_with (go_at_call 50; refine (HT.out _).mono ?_; rintro en w1 ⟨rfl, bb⟩; (have H1 := hid (HR.out.drew.below bb)); (obtain ⟨d0, d1, -⟩ := H1.out.cells); (have g1 := H1.out.free 1); clear bb)
  all_goals
    clear c0 c1
    go_wp2_with fail
    go_ret
    exact ⟨rfl, H1.out.set1 q⟩
set_option maxRecDepth 100000 in
set_option maxHeartbeats 1000000 in
theorem stands_any (c : Int) (W : World) : Calls Tryz.prog 24 #[.int .i32 c] W fun en W' => en = .returned (.bool (X.stands c)) ∧ W' = W := by
  have hcl : (c = 9) ∨ (c = 10) ∨ (c = 13) ∨ (c < 32 ∧ c ≠ 9 ∧ c ≠ 10 ∧ c ≠ 13) ∨ (32 ≤ c ∧ c ≤ 55295) ∨ (55296 ≤ c ∧ c ≤ 57343) ∨ (57344 ≤ c ∧ c ≤ 65533) ∨ (65534 ≤ c ∧ c ≤ 65535) ∨ (65536 ≤ c ∧ c ≤ 1114111) ∨ (1114112 ≤ c) := by omega
  rcases hcl with h | h | h | h | h | h | h | h | h | h
  · rw [show X.stands c = true by unfold X.stands; subst h; rfl]
    subst h
    go_enter Tryz.func24, Tryz.ntmps24
    go_wp2
    go_ret
    exact ⟨rfl, rfl⟩
  · rw [show X.stands c = true by unfold X.stands; subst h; rfl]
    subst h
    go_enter Tryz.func24, Tryz.ntmps24
    go_wp2
    go_ret
    exact ⟨rfl, rfl⟩
  · rw [show X.stands c = true by unfold X.stands; subst h; rfl]
    subst h
    go_enter Tryz.func24, Tryz.ntmps24
    go_wp2
    go_ret
    exact ⟨rfl, rfl⟩
  · rw [show X.stands c = false by unfold X.stands; simp; omega]
    have q9 : (c == 9) = false := beq_eq_false_iff_ne.2 (by omega)
    have q10 : (c == 10) = false := beq_eq_false_iff_ne.2 (by omega)
    have q13 : (c == 13) = false := beq_eq_false_iff_ne.2 (by omega)
    have ta : decide (c < 32) = true := decide_eq_true (by omega)
    have tb : decide ((1114111 : Int) < c) = false := decide_eq_false (by omega)
    have td : decide (c ≤ 55295) = true := decide_eq_true (by omega)
    have te : decide ((57344 : Int) ≤ c) = false := decide_eq_false (by omega)
    have tf : decide (c ≤ 65533) = true := decide_eq_true (by omega)
    have tg : decide ((65536 : Int) ≤ c) = false := decide_eq_false (by omega)
    clear h
    go_enter Tryz.func24, Tryz.ntmps24
    go_wp2
    go_ret
    exact ⟨rfl, rfl⟩
  · rw [show X.stands c = true by unfold X.stands; simp; omega]
    have q9 : (c == 9) = false := beq_eq_false_iff_ne.2 (by omega)
    have q10 : (c == 10) = false := beq_eq_false_iff_ne.2 (by omega)
    have q13 : (c == 13) = false := beq_eq_false_iff_ne.2 (by omega)
    have ta : decide (c < 32) = false := decide_eq_false (by omega)
    have tb : decide ((1114111 : Int) < c) = false := decide_eq_false (by omega)
    have td : decide (c ≤ 55295) = true := decide_eq_true (by omega)
    have te : decide ((57344 : Int) ≤ c) = false := decide_eq_false (by omega)
    have tf : decide (c ≤ 65533) = true := decide_eq_true (by omega)
    have tg : decide ((65536 : Int) ≤ c) = false := decide_eq_false (by omega)
    clear h
    go_enter Tryz.func24, Tryz.ntmps24
    go_wp2
    go_ret
    exact ⟨rfl, rfl⟩
  · rw [show X.stands c = false by unfold X.stands; simp; omega]
    have q9 : (c == 9) = false := beq_eq_false_iff_ne.2 (by omega)
    have q10 : (c == 10) = false := beq_eq_false_iff_ne.2 (by omega)
    have q13 : (c == 13) = false := beq_eq_false_iff_ne.2 (by omega)
    have ta : decide (c < 32) = false := decide_eq_false (by omega)
    have tb : decide ((1114111 : Int) < c) = false := decide_eq_false (by omega)
    have td : decide (c ≤ 55295) = false := decide_eq_false (by omega)
    have te : decide ((57344 : Int) ≤ c) = false := decide_eq_false (by omega)
    have tf : decide (c ≤ 65533) = true := decide_eq_true (by omega)
    have tg : decide ((65536 : Int) ≤ c) = false := decide_eq_false (by omega)
    clear h
    go_enter Tryz.func24, Tryz.ntmps24
    go_wp2
    go_ret
    exact ⟨rfl, rfl⟩
  · rw [show X.stands c = true by unfold X.stands; simp; omega]
    have q9 : (c == 9) = false := beq_eq_false_iff_ne.2 (by omega)
    have q10 : (c == 10) = false := beq_eq_false_iff_ne.2 (by omega)
    have q13 : (c == 13) = false := beq_eq_false_iff_ne.2 (by omega)
    have ta : decide (c < 32) = false := decide_eq_false (by omega)
    have tb : decide ((1114111 : Int) < c) = false := decide_eq_false (by omega)
    have td : decide (c ≤ 55295) = false := decide_eq_false (by omega)
    have te : decide ((57344 : Int) ≤ c) = true := decide_eq_true (by omega)
    have tf : decide (c ≤ 65533) = true := decide_eq_true (by omega)
    have tg : decide ((65536 : Int) ≤ c) = false := decide_eq_false (by omega)
    clear h
    go_enter Tryz.func24, Tryz.ntmps24
    go_wp2
    go_ret
    exact ⟨rfl, rfl⟩
  · rw [show X.stands c = false by unfold X.stands; simp; omega]
    have q9 : (c == 9) = false := beq_eq_false_iff_ne.2 (by omega)
    have q10 : (c == 10) = false := beq_eq_false_iff_ne.2 (by omega)
    have q13 : (c == 13) = false := beq_eq_false_iff_ne.2 (by omega)
    have ta : decide (c < 32) = false := decide_eq_false (by omega)
    have tb : decide ((1114111 : Int) < c) = false := decide_eq_false (by omega)
    have td : decide (c ≤ 55295) = false := decide_eq_false (by omega)
    have te : decide ((57344 : Int) ≤ c) = true := decide_eq_true (by omega)
    have tf : decide (c ≤ 65533) = false := decide_eq_false (by omega)
    have tg : decide ((65536 : Int) ≤ c) = false := decide_eq_false (by omega)
    clear h
    go_enter Tryz.func24, Tryz.ntmps24
    go_wp2
    go_ret
    exact ⟨rfl, rfl⟩
  · rw [show X.stands c = true by unfold X.stands; simp; omega]
    have q9 : (c == 9) = false := beq_eq_false_iff_ne.2 (by omega)
    have q10 : (c == 10) = false := beq_eq_false_iff_ne.2 (by omega)
    have q13 : (c == 13) = false := beq_eq_false_iff_ne.2 (by omega)
    have ta : decide (c < 32) = false := decide_eq_false (by omega)
    have tb : decide ((1114111 : Int) < c) = false := decide_eq_false (by omega)
    have td : decide (c ≤ 55295) = false := decide_eq_false (by omega)
    have te : decide ((57344 : Int) ≤ c) = true := decide_eq_true (by omega)
    have tf : decide (c ≤ 65533) = false := decide_eq_false (by omega)
    have tg : decide ((65536 : Int) ≤ c) = true := decide_eq_true (by omega)
    clear h
    go_enter Tryz.func24, Tryz.ntmps24
    go_wp2
    go_ret
    exact ⟨rfl, rfl⟩
  · rw [show X.stands c = false by unfold X.stands; simp; omega]
    have q9 : (c == 9) = false := beq_eq_false_iff_ne.2 (by omega)
    have q10 : (c == 10) = false := beq_eq_false_iff_ne.2 (by omega)
    have q13 : (c == 13) = false := beq_eq_false_iff_ne.2 (by omega)
    have ta : decide (c < 32) = false := decide_eq_false (by omega)
    have tb : decide ((1114111 : Int) < c) = true := decide_eq_true (by omega)
    have td : decide (c ≤ 55295) = false := decide_eq_false (by omega)
    have te : decide ((57344 : Int) ≤ c) = true := decide_eq_true (by omega)
    have tf : decide (c ≤ 65533) = false := decide_eq_false (by omega)
    have tg : decide ((65536 : Int) ≤ c) = true := decide_eq_true (by omega)
    clear h
    go_enter Tryz.func24, Tryz.ntmps24
    go_wp2
    go_ret
    exact ⟨rfl, rfl⟩
theorem decode_rest {s : ByteArray} {p : Nat} (hp : p < s.size) : Lib.decodeGo (s.extract p s.size) = Lib.decodeL (rest s p) := W.decodeGo_drop s p hp
theorem decode_end {s : ByteArray} : Lib.decodeGo (s.extract s.size s.size) = (65533, 0) := by
  unfold Lib.decodeGo
  rw [if_pos (by simp)]
set_option maxRecDepth 100000 in
set_option maxHeartbeats 2000000 in
theorem char_any {R p c B : Nat} {s : ByteArray} {W : World} (h : Rd W R s p c W) (hp : p ≤ s.size) (hs : s.size ≤ 1000000000000) (hG : Ground B W) :
    Calls Tryz.prog 51 #[.pointer (some ⟨R, 0, none⟩)] W (Ends W R s c (X.char (rest s p)) (fun x => .int .i32 x)) := by
  have P0 : (0 : Int) ≤ (p : Int) := by omega
  have P1 : (p : Int) ≤ (s.size : Int) := by omega
  have HR := hid h
  have cD := fun U (hU : Tabs U) => Tryz.utf8_DecodeRuneInString (s.extract p s.size) U hU
  have cB := fun U (hU : Rd U R s p c U) => bad_any hU hp
  obtain ⟨c0, c1, -⟩ := h.cells
  have HT : Hid (Tabs W) := hG.now
  have HTD : Hid (Tabs W.drew) := hG.now
  have fin : ∀ {W' W'' : World} {en : Ending}, X.char (rest s p) = .error (X.bad (rest s p)) → Rd W R s p c W' → Below W'.heap.size W' W'' → Ends W R s c (X.char (rest s p)) (fun x => .int .i32 x) (.panicked (chain (X.bad (rest s p)).2 ((s.size - (X.bad (rest s p)).1 : Nat) : Int))) W'' := fun h1 h2 h3 => Or.inr ⟨_, _, h1, rfl, (h2.below h3).g⟩
  by_cases hps : p = s.size
  · have hd : Lib.decodeGo (s.extract p s.size) = (65533, 0) := by rw [hps]; exact decode_end
    rw [hd] at cD
    replace cD : ∀ U, Tabs U → Calls Tryz.prog 23 #[.string (s.extract p s.size)] U fun e w' => e = .returned (.tuple #[.int .i32 65533, .int .i64 0]) ∧ Below U.heap.size U w' := cD
    have HX : Hid (X.char (rest s p) = .error (X.bad (rest s p))) := by
      show _ = _
      have := (rest_nil s p).2 (by omega)
      rw [this]; rfl
    have HD := hid cD
    have HB := hid cB
    have HF := hid (fun W' W'' en => @fin W' W'' en)
    clear h cD cB fin hG hp hd hps
    go_enter Tryz.func51, Tryz.ntmps51
    go_wp2_with fail
    refine quiet_lit (C := (fun w1 => Rd W R s p c w1 ∧ Tabs w1)) (by kernel_rfl) (by kernel_rfl) (⟨HR.out.drew, HTD.out⟩) ?_
    repeat (first
      | go_big_quiet_skip
      | (go_big_quiet_want
         refine quiet_val (x := ?_) (fun vv hC => ?_) ?_
         rotate_left
         · skip
           obtain ⟨c0, c1, -⟩ := hC.1.cells
           clear hC
           go_simp
           with_reducible rfl
         go_big_quiet_on
         try simp only [Act.put, List.setIfInBounds_toArray, List.set_cons_zero, List.set_cons_succ])
      | (go_big_quiet_want
         refine quiet_call (f := ?_) (args := ?_) (x := ?_) (fun vv hC => ?_) (fun vv hC => ?_) ?_
         rotate_left 3
         · go_simp
           first | with_reducible rfl | (apply And.intro <;> with_reducible rfl)
         · first
             | (go_at_call 23; with_reducible refine (HD.out _ hC.2).mono ?_; rintro e ww ⟨rfl, bb⟩; refine And.intro ?_ (⟨hC.1.below bb, hC.2.under bb⟩); with_reducible rfl)
         go_big_quiet_on
         try simp only [Act.put, List.setIfInBounds_toArray, List.set_cons_zero, List.set_cons_succ]))
    refine wpQuiet_nil ?_
    intro vq hq
    have H2 := hid hq.1
    clear c0 c1 hq
    go_wp2_with fail
    refine (HB.out _ H2.out.own).mono ?_
    rintro e w2 ⟨rfl, hbl⟩
    exact ⟨rfl, HF.out _ _ (.returned (.tuple #[])) HX.out H2.out hbl⟩
  · have hlt : p < s.size := by omega
    rw [decode_rest hlt] at cD
    have hne : rest s p ≠ [] := fun e => by rw [rest_nil] at e; omega
    have hw := Lib.decodeL_width (rest s p)
    have hle := Lib.decodeL_le (rest s p) hne
    have hru := Lib.decodeL_rune (rest s p)
    rw [rest_len] at hle
    have HX : Hid (X.char (rest s p) = if ((Lib.decodeL (rest s p)).1 = 65533 ∧ (Lib.decodeL (rest s p)).2 = 1) ∨ X.stands (Lib.decodeL (rest s p)).1 = false then .error (X.bad (rest s p)) else .ok (((Lib.decodeL (rest s p)).1 : Int), (rest s p).drop (Lib.decodeL (rest s p)).2)) := by
      show _ = _
      unfold X.char X.bad
      rw [if_neg hne, if_neg hne]
    obtain ⟨r, hr⟩ : ∃ r, (Lib.decodeL (rest s p)).1 = r := ⟨_, rfl⟩
    obtain ⟨k, hk⟩ : ∃ k, (Lib.decodeL (rest s p)).2 = k := ⟨_, rfl⟩
    rw [hr] at cD HX hru
    rw [hk] at cD HX hw hle
    clear hr hk hne
    have HD := hid cD
    have HB := hid cB
    have HF := hid (fun W' W'' en => @fin W' W'' en)
    have cS := fun U => stands_any (r : Int) U
    have k0 : ((k : Int) == 0) = false := beq_eq_false_iff_ne.2 (by omega)
    clear h cD cB fin hG
    go_enter Tryz.func51, Tryz.ntmps51
    go_wp2_with fail
    refine quiet_lit (C := (fun w1 => Rd W R s p c w1 ∧ Tabs w1)) (by kernel_rfl) (by kernel_rfl) (⟨HR.out.drew, HTD.out⟩) ?_
    repeat (first
      | go_big_quiet_skip
      | (go_big_quiet_want
         refine quiet_val (x := ?_) (fun vv hC => ?_) ?_
         rotate_left
         · skip
           obtain ⟨c0, c1, -⟩ := hC.1.cells
           clear hC
           go_simp
           with_reducible rfl
         go_big_quiet_on
         try simp only [Act.put, List.setIfInBounds_toArray, List.set_cons_zero, List.set_cons_succ])
      | (go_big_quiet_want
         refine quiet_call (f := ?_) (args := ?_) (x := ?_) (fun vv hC => ?_) (fun vv hC => ?_) ?_
         rotate_left 3
         · go_simp
           first | with_reducible rfl | (apply And.intro <;> with_reducible rfl)
         · first
             | (go_at_call 23; with_reducible refine (HD.out _ hC.2).mono ?_; rintro e ww ⟨rfl, bb⟩; refine And.intro ?_ (⟨hC.1.below bb, hC.2.under bb⟩); with_reducible rfl)
         go_big_quiet_on
         try simp only [Act.put, List.setIfInBounds_toArray, List.set_cons_zero, List.set_cons_succ]))
    refine wpQuiet_nil ?_
    intro vq hq
    have H1 := hid hq.1
    clear c0 c1 hq HD HTD HT HR
    have hcase : (((r : Int) == 65533) = true ∧ ((k : Int) == 1) = true) ∨ ((((r : Int) == 65533) = false ∨ (((r : Int) == 65533) = true ∧ ((k : Int) == 1) = false)) ∧ X.stands r = false) ∨ ((((r : Int) == 65533) = false ∨ (((r : Int) == 65533) = true ∧ ((k : Int) == 1) = false)) ∧ X.stands r = true) := by
      cases (r : Int) == 65533 <;> cases (k : Int) == 1 <;> cases X.stands r <;> simp
    rcases hcase with ⟨g1, g2⟩ | ⟨gc, g3⟩ | ⟨gc, g3⟩
    · have HE : Hid (X.char (rest s p) = .error (X.bad (rest s p))) := by
        show _ = _
        rw [HX.out, if_pos]
        left; simp only [beq_iff_eq] at g1 g2; omega
      clear HX cS
      go_wp2_with fail
      refine (HB.out _ H1.out.own).mono ?_
      rintro e w2 ⟨rfl, hbl⟩
      exact ⟨rfl, HF.out _ _ (.returned (.tuple #[])) HE.out H1.out hbl⟩
    · have HE : Hid (X.char (rest s p) = .error (X.bad (rest s p))) := by
        show _ = _
        rw [HX.out, if_pos]
        right; exact g3
      rw [g3] at cS
      clear HX g3
      rcases gc with g1 | ⟨g1, g2⟩
      all_goals
        go_wp2_with fail
        refine (cS _).mono ?_
        rintro e w2 ⟨rfl, rfl⟩
        go_wp2_with fail
        refine (HB.out _ H1.out.own).mono ?_
        rintro e w2 ⟨rfl, hbl⟩
        exact ⟨rfl, HF.out _ _ (.returned (.tuple #[])) HE.out H1.out hbl⟩
    · have HY0 : X.char (rest s p) = .ok ((r : Int), rest s (p + k)) := by
        rw [HX.out, if_neg, rest_drop]
        rintro (⟨h4, h5⟩ | h4)
        · rcases gc with g1 | ⟨g1, g2⟩
          · have := beq_eq_false_iff_ne.1 g1; omega
          · have := beq_eq_false_iff_ne.1 g2; omega
        · rw [g3] at h4; cases h4
      have HY := hid HY0
      rw [g3] at cS
      clear HY0 HX g3
      obtain ⟨q, hq⟩ : ∃ q, p + k = q := ⟨_, rfl⟩
      rw [hq] at HY
      have e1 : (p : Int) + (k : Int) = (q : Int) := by omega
      have e2 : IntKind.i64.wrap (q : Int) = (q : Int) := by rw [IntKind.wrap_i64]; omega
      have HQ : Hid (s.size - (rest s q).length = q) := by show _ = _; rw [rest_len]; omega
      obtain ⟨c0, c1, -⟩ := H1.out.cells
      have f1 := H1.out.free 1
      clear hq
      rcases gc with g1 | ⟨g1, g2⟩
      all_goals
        go_wp2_with fail
        refine (cS _).mono ?_
        rintro e w2 ⟨rfl, rfl⟩
        go_wp2_with fail
        go_ret
        exact Or.inl ⟨_, _, HY.out, rfl, by rw [HQ.out]; exact H1.out.set1 q⟩
end Go.Proofs.YtakplnceiibmlaaGreatDoor
