/- The reader: references. -/
import Derived.Test.YtakplnceiibmlaaGreatDoorMCut
import Derived.Test.YtakplnceiibmlaaGreatDoorMName
import Derived.Test.YtakplnceiibmlaaGreatDoorVQuiet
namespace Go.Proofs.YtakplnceiibmlaaGreatDoor
open Go.RowKit
open Go.Lib (hid)
theorem win_list (s : ByteArray) (p : Nat) : (s.extract (p + 1) (min s.size (p + 12))).data.toList = ((rest s p).drop 1).take 11 := by
  rw [cut_list, rest_drop]
  show (rest s (p + 1)).take _ = _
  by_cases h : p + 12 ≤ s.size
  · rw [Nat.min_eq_right h, show p + 12 - (p + 1) = 11 by omega]
  · rw [List.take_of_length_le (by rw [rest_len]; omega), List.take_of_length_le (by rw [rest_len]; omega)]
theorem refOf_num (ds : List UInt8) : X.refOf (35 :: ds) = X.number ds := rfl
theorem refOf_ent {l : List UInt8} (h : [35].isPrefixOf l = false) : X.refOf l = X.entity l := by
  match l with
  | [] => rfl
  | c :: r =>
    unfold X.refOf
    split
    · rename_i e; simp only [List.cons.injEq] at e; rw [e.1] at h; exact absurd h (by simp [List.isPrefixOf])
    · rfl
set_option maxRecDepth 100000 in
set_option maxHeartbeats 4000000 in
theorem reference_any {R p c B : Nat} {s : ByteArray} {W : World} (h : Rd W R s p c W) (hp : p < s.size) (hs : s.size ≤ 1000000000000) (hG : Ground B W) (hB : B ≤ R) :
    Calls Tryz.prog 62 #[.pointer (some ⟨R, 0, none⟩)] W (Ends W R s c (X.ref (rest s p)) (fun v => .int .i32 v)) := by
  obtain ⟨m, hm⟩ : ∃ m, min s.size (p + 12) = m := ⟨_, rfl⟩
  have hwin := win_list s p
  rw [hm] at hwin
  obtain ⟨win, hw⟩ : ∃ win, s.extract (p + 1) m = win := ⟨_, rfl⟩
  have hwsz : win.size ≤ 1000000000000 := by rw [← hw, ByteArray.size_extract]; omega
  have cC := fun U => cut_any win 59 hwsz U
  rw [hw] at hwin
  unfold cutT at cC
  obtain ⟨nm, hnm⟩ : ∃ nm, win.data.toList.takeWhile (fun x => x != 59) = nm := ⟨_, rfl⟩
  obtain ⟨cl, hcl⟩ : ∃ cl, decide ((59 : UInt8) ∈ win.data.toList) = cl := ⟨_, rfl⟩
  obtain ⟨aft, haft⟩ : ∃ aft, cutR win 59 = aft := ⟨_, rfl⟩
  rw [hnm, hcl, haft] at cC
  rw [hwin] at hnm hcl
  have hlen : nm.length + (if cl = true then 1 else 0) ≤ ((rest s p).drop 1).length := by
    by_cases hc : cl = true
    · rw [if_pos hc]
      have h0 := tw_lt (of_decide_eq_true (hcl.trans hc))
      rw [hnm] at h0
      have h1 : (((rest s p).drop 1).take 11).length ≤ ((rest s p).drop 1).length := by rw [List.length_take]; omega
      omega
    · rw [if_neg hc, ← hnm]
      have h0 := (List.takeWhile_prefix (fun x : UInt8 => x != 59) (l := ((rest s p).drop 1).take 11)).length_le
      have h1 : (((rest s p).drop 1).take 11).length ≤ ((rest s p).drop 1).length := by rw [List.length_take]; omega
      omega
  rw [rest_drop, rest_len] at hlen
  have HX : Hid (X.ref (rest s p) = if cl = true then (match X.refOf nm with | some v => .ok (v, rest s (p + (nm.length + 2))) | none => .error (s.size - p, 82)) else .error (s.size - p, 82)) := by
    show _ = _
    unfold X.ref X.refName
    rw [hnm, rest_len]
    by_cases hc : cl = true
    · rw [if_pos hc, if_pos (of_decide_eq_true (hcl.trans hc)), rest_drop]
      cases X.refOf nm <;> rfl
    · rw [if_neg hc, if_neg (fun hh => hc (hcl.symm.trans (decide_eq_true hh)))]
  have cE := fun U => entity_any (X.ba nm) (by show nm.toArray.size ≤ _; rw [List.size_toArray]; have := hlen; split at this <;> omega) U
  have cP := fun U => Tryz.strings_CutPrefix (X.ba nm) ⟨#[35]⟩ U
  rw [show (X.ba nm).data.toList = nm from by simp [X.ba], show (⟨#[35]⟩ : ByteArray).data.toList = [35] from rfl] at cP
  rw [show (X.ba nm).data.toList = nm from by simp [X.ba]] at cE
  have HSZ : Hid ((X.ba nm).size = nm.length) := by show nm.toArray.size = _; rw [List.size_toArray]
  obtain ⟨p1, hp1⟩ : ∃ p1, p + 1 = p1 := ⟨_, rfl⟩
  obtain ⟨p2, hp2⟩ : ∃ p2, p + 12 = p2 := ⟨_, rfl⟩
  rw [hp1] at hw
  rw [← hw] at cC
  have w1 : IntKind.i64.wrap ((p : Int) + 1) = (p1 : Int) := by rw [IntKind.wrap_i64] <;> omega
  have w2 : IntKind.i64.wrap ((p : Int) + 12) = (p2 : Int) := by rw [IntKind.wrap_i64] <;> omega
  have mn : min (s.size : Int) (p2 : Int) = (m : Int) := by omega
  have P0 : (0 : Int) ≤ (p1 : Int) := by omega
  have P1 : (p1 : Int) ≤ (m : Int) := by omega
  have P2 : (m : Int) ≤ (s.size : Int) := by omega
  have HC := hid cC
  have HE := hid cE
  have HP := hid cP
  have HR := hid h
  have HG := hid hG
  have HLEN := hid hlen
  have HW := hid hw
  have HRET : Hid (∀ v, cl = true → X.refOf nm = some v → X.ref (rest s p) = .ok (v, rest s (p + (nm.length + 2))) ∧ s.size - (rest s (p + (nm.length + 2))).length = p + (nm.length + 2)) := by
    intro v hc ho
    refine ⟨?_, ?_⟩
    · rw [HX.out, if_pos hc, ho]
    · have := HLEN.out; rw [if_pos hc] at this; rw [rest_len]; omega
  have HERR : Hid (cl = false ∨ X.refOf nm = none → X.ref (rest s p) = .error (s.size - p, 82)) := by
    intro ho
    rw [HX.out]
    rcases ho with ho | ho
    · rw [if_neg (by rw [ho]; decide)]
    · rw [ho]; split <;> rfl
  obtain ⟨c0, c1, -⟩ := h.cells
  clear hm hp1 hp2 hwin hwsz cC cE cP h hG hlen hw hnm hcl haft HX
  go_enter Tryz.func62, Tryz.ntmps62
  go_wp2_with fail
  refine quiet_lit (C := (fun w1 => Rd W R s p c w1)) (by kernel_rfl) (by kernel_rfl) (HR.out.drew) ?_
  repeat (first
    | go_big_quiet_skip
    | (go_big_quiet_want
       refine quiet_val (x := ?_) (fun vv hC => ?_) ?_
       rotate_left
       · skip
         obtain ⟨c0, c1, -⟩ := hC.cells
         clear hC
         go_simp
         with_reducible rfl
       go_big_quiet_on
       try simp only [Act.put, List.setIfInBounds_toArray, List.set_cons_zero, List.set_cons_succ])
    | (go_big_quiet_want
       refine quiet_call (f := ?_) (args := ?_) (x := ?_) (fun vv hC => ?_) (fun vv hC => ?_) ?_
       rotate_left 3
       · go_simp
         first | with_reducible rfl | (apply And.intro <;> with_reducible rfl)
       · first
           | (go_at_call 77; with_reducible refine (HC.out _).mono ?_; rintro e ww ⟨rfl, bb⟩; refine And.intro ?_ (hC.below bb); with_reducible rfl)
       go_big_quiet_on
       try simp only [Act.put, List.setIfInBounds_toArray, List.set_cons_zero, List.set_cons_succ]))
  refine wpQuiet_nil ?_
  intro vq hq
  have HRQ := hid hq
  clear hq c0 c1 HC HR HW
  have cF := fun U => fail_any 82 (p : Int) U
  by_cases hpre : [35].isPrefixOf nm = true
  · obtain ⟨ds, rfl⟩ : ∃ ds, nm = 35 :: ds := by
      match nm, hpre with
      | a :: r, hh => simp only [List.isPrefixOf, Bool.and_true, beq_iff_eq] at hh; exact ⟨r, by rw [hh]⟩
    have HP1 : Hid (∀ U, Calls Tryz.prog 79 #[.string (X.ba (35 :: ds)), .string ⟨#[35]⟩] U fun e w' => e = .returned (.tuple #[.string (X.ba ds), .bool true]) ∧ w' = U) := by
      intro U
      have := HP.out U
      rw [show Lib.trimPrefix (35 :: ds) [35] = ds from rfl, show Lib.hasPrefix (35 :: ds) [35] = true from rfl] at this
      exact this
    have cN := fun U (hE : Errs U) => number_any (X.ba ds) (by show ds.toArray.size ≤ _; rw [List.size_toArray]; have := HLEN.out; rw [List.length_cons] at this; split at this <;> omega) U hE
    rw [show (X.ba ds).data.toList = ds from by simp [X.ba], ← refOf_num] at cN
    have HN := hid cN
    obtain ⟨o, ho⟩ : ∃ o, X.refOf (35 :: ds) = o := ⟨_, rfl⟩
    rw [ho] at HN HRET HERR
    obtain ⟨nm, hnm⟩ : ∃ nm, 35 :: ds = nm := ⟨_, rfl⟩
    rw [hnm] at HP1 HRET HSZ HLEN HE ⊢
    have HE1 : Hid (∃ ev eb, ∀ U, Calls Tryz.prog 78 #[.string (X.ba nm)] U fun en W' => en = .returned (.tuple #[.int .i32 ev, .bool eb]) ∧ Below U.heap.size U W') := ⟨_, _, HE.out⟩
    obtain ⟨ev, eb, cE⟩ := HE1.out
    have HNM : Hid (∀ U, Calls Tryz.prog 79 #[.string (X.ba nm), .string ⟨#[35]⟩] U fun e w' => e = .returned (.tuple #[.string (X.ba ds), .bool true]) ∧ w' = U) := HP1.out
    clear hpre HP HP1 HE HE1 cN ho hnm
    obtain ⟨t, ht⟩ : ∃ t, X.ba nm = t := ⟨_, rfl⟩
    obtain ⟨td, htd⟩ : ∃ td, X.ba ds = td := ⟨_, rfl⟩
    rw [ht] at cE HNM HSZ ⊢
    rw [htd] at HNM HN
    clear ht htd
    go_wp2_with fail
    refine (cE _).mono ?_
    rintro e w2 ⟨rfl, hb⟩
    have HR2 := hid (HRQ.out.below hb)
    clear hb cE
    go_wp2_with fail
    refine (HNM.out _).mono ?_
    rintro e w3 ⟨rfl, hw3⟩
    rw [hw3]
    clear hw3 w3 HNM
    go_wp2_with fail
    refine (HN.out _ ((HG.out.rd HR2.out hB).errs _ (Below.refl _ _))).mono ?_
    rintro e w3 ⟨rfl, hb⟩
    have HR3 := hid (HR2.out.below hb)
    clear hb HN HR2 HRQ
    unfold numT
    cases o with
    | none =>
      have HE2 := hid (HERR.out (Or.inr rfl))
      clear HERR HRET
      cases cl
      all_goals
        go_wp2_with fail
        refine (cF _).mono ?_
        rintro e w4 ⟨rfl, rfl⟩
        exact ⟨rfl, Or.inr ⟨_, _, HE2.out, by rw [Nat.sub_sub_self (Nat.le_of_lt hp)], HR3.out.g⟩⟩
    | some v =>
      cases cl with
      | false =>
        have HE2 := hid (HERR.out (Or.inl rfl))
        clear HERR HRET
        go_wp2_with fail
        refine (cF _).mono ?_
        rintro e w4 ⟨rfl, rfl⟩
        exact ⟨rfl, Or.inr ⟨_, _, HE2.out, by rw [Nat.sub_sub_self (Nat.le_of_lt hp)], HR3.out.g⟩⟩
      | true =>
        have HE2 := hid (HRET.out v rfl rfl)
        clear HERR HRET
        obtain ⟨c0, c1, -⟩ := HR3.out.cells
        have f1 := HR3.out.free 1
        obtain ⟨q1, hq1⟩ : ∃ q1, p + t.size = q1 := ⟨_, rfl⟩
        obtain ⟨q, hq⟩ : ∃ q, p + (nm.length + 2) = q := ⟨_, rfl⟩
        have hle := HLEN.out
        have hsz := HSZ.out
        simp only [if_true] at hle
        rw [hq] at HE2
        have e1 : IntKind.i64.wrap ((p : Int) + (t.size : Int)) = (q1 : Int) := by rw [IntKind.wrap_i64] <;> omega
        have e2 : IntKind.i64.wrap ((q1 : Int) + 2) = (q : Int) := by rw [IntKind.wrap_i64] <;> omega
        clear hq1 hq hle hsz HLEN HSZ cF
        go_wp2_with fail
        go_ret
        exact Or.inl ⟨_, _, HE2.out.1, rfl, by rw [HE2.out.2]; exact HR3.out.set1 q⟩
  · have hpre0 : [35].isPrefixOf nm = false := Bool.eq_false_iff.2 hpre
    have HP1 : Hid (∃ t', ∀ U, Calls Tryz.prog 79 #[.string (X.ba nm), .string ⟨#[35]⟩] U fun e w' => e = .returned (.tuple #[.string t', .bool false]) ∧ w' = U) := by
      refine ⟨X.ba nm, fun U => ?_⟩
      have := HP.out U
      rw [show Lib.trimPrefix nm [35] = nm from by unfold Lib.trimPrefix Lib.hasPrefix; rw [hpre0]; rfl, show Lib.hasPrefix nm [35] = false from hpre0] at this
      exact this
    obtain ⟨t', HNM⟩ := HP1.out
    have HN := hid HE.out
    rw [← refOf_ent hpre0] at HN
    obtain ⟨o, ho⟩ : ∃ o, X.refOf nm = o := ⟨_, rfl⟩
    rw [ho] at HN HRET HERR
    clear hpre hpre0 HP HP1 HE ho
    obtain ⟨t, ht⟩ : ∃ t, X.ba nm = t := ⟨_, rfl⟩
    rw [ht] at HN HNM HSZ ⊢
    clear ht
    go_wp2_with fail
    refine (HN.out _).mono ?_
    rintro e w2 ⟨rfl, hb⟩
    have HR3 := hid (HRQ.out.below hb)
    clear hb HN HRQ
    go_wp2_with fail
    refine (HNM _).mono ?_
    rintro e w3 ⟨rfl, hw3⟩
    rw [hw3]
    clear hw3 w3 HNM
    cases o with
    | none =>
      have HE2 := hid (HERR.out (Or.inr rfl))
      clear HERR HRET
      cases cl
      all_goals
        go_wp2_with fail
        refine (cF _).mono ?_
        rintro e w4 ⟨rfl, rfl⟩
        exact ⟨rfl, Or.inr ⟨_, _, HE2.out, by rw [Nat.sub_sub_self (Nat.le_of_lt hp)], HR3.out.g⟩⟩
    | some v =>
      cases cl with
      | false =>
        have HE2 := hid (HERR.out (Or.inl rfl))
        clear HERR HRET
        go_wp2_with fail
        refine (cF _).mono ?_
        rintro e w4 ⟨rfl, rfl⟩
        exact ⟨rfl, Or.inr ⟨_, _, HE2.out, by rw [Nat.sub_sub_self (Nat.le_of_lt hp)], HR3.out.g⟩⟩
      | true =>
        have HE2 := hid (HRET.out v rfl rfl)
        clear HERR HRET
        obtain ⟨c0, c1, -⟩ := HR3.out.cells
        have f1 := HR3.out.free 1
        obtain ⟨q1, hq1⟩ : ∃ q1, p + t.size = q1 := ⟨_, rfl⟩
        obtain ⟨q, hq⟩ : ∃ q, p + (nm.length + 2) = q := ⟨_, rfl⟩
        have hle := HLEN.out
        have hsz := HSZ.out
        simp only [if_true] at hle
        rw [hq] at HE2
        have e1 : IntKind.i64.wrap ((p : Int) + (t.size : Int)) = (q1 : Int) := by rw [IntKind.wrap_i64] <;> omega
        have e2 : IntKind.i64.wrap ((q1 : Int) + 2) = (q : Int) := by rw [IntKind.wrap_i64] <;> omega
        clear hq1 hq hle hsz HLEN HSZ cF
        go_wp2_with fail
        go_ret
        exact Or.inl ⟨_, _, HE2.out.1, rfl, by rw [HE2.out.2]; exact HR3.out.set1 q⟩
end Go.Proofs.YtakplnceiibmlaaGreatDoor
