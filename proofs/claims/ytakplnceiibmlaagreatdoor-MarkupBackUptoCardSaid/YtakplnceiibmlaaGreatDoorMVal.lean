/- The reader: an attribute's value. -/
import Derived.Test.YtakplnceiibmlaaGreatDoorMRef
import Derived.Test.YtakplnceiibmlaaGreatDoorJBld
namespace Go.Proofs.YtakplnceiibmlaaGreatDoor
open Go.RowKit
open Go.Lib (hid)
theorem charL_le (c : Int) : (W.charL c).length ≤ 4 := by
  unfold W.charL
  split
  · unfold W.charN W.charB
    rw [List.length_map]
    split
    · simp
    · split
      · simp
      · split <;> simp
  · simp
namespace X
theorem stands_ok {c : Int} (h : stands c = true) : W.charOk c = true := by
  unfold stands at h
  unfold W.charOk
  simp only [Bool.or_eq_true, decide_eq_true_eq] at h ⊢
  omega
theorem char_ok {l r : List UInt8} {c : Int} (h : char l = .ok (c, r)) : W.charOk c = true := by
  unfold char at h
  split at h
  · cases h
  · split at h
    · cases h
    · rename_i h1
      cases h
      refine stands_ok ?_
      cases hs : stands (Lib.decodeL l).1
      · exact absurd (Or.inr hs) h1
      · rfl
theorem tailN_ok {b m : Nat} {ds : List UInt8} {c : Int} (h : tailN b m ds = some c) : W.charOk c = true := by
  unfold tailN at h
  by_cases h0 : ds.length < 1 ∨ m < ds.length
  · rw [if_pos h0] at h; cases h
  · rw [if_neg h0] at h
    cases hn : numB b 0 ds with
    | none => rw [hn] at h; cases h
    | some n =>
      rw [hn] at h
      simp only at h
      by_cases hs : stands (n : Int) = true
      · rw [if_pos hs] at h; cases h; exact stands_ok hs
      · rw [if_neg hs] at h; cases h
theorem number_ok {l : List UInt8} {c : Int} (h : number l = some c) : W.charOk c = true := by
  cases hx : [120].isPrefixOf l
  · rw [number_dec hx] at h; exact tailN_ok h
  · match l, hx with
    | a :: r, hh =>
      simp only [List.isPrefixOf, Bool.and_true, beq_iff_eq] at hh
      rw [number_hex (l := a :: r) (r := r) (by rw [hh])] at h; exact tailN_ok h
theorem entity_ok {l : List UInt8} {c : Int} (h : entity l = some c) : W.charOk c = true := by
  unfold entity at h
  repeat' split at h
  all_goals first | (cases h; done) | (cases h; decide)
theorem ref_ok {l r : List UInt8} {c : Int} (h : ref l = .ok (c, r)) : W.charOk c = true := by
  unfold ref at h
  split at h
  · split at h
    · rename_i v hv
      cases h
      unfold refOf at hv
      split at hv
      · exact number_ok hv
      · exact entity_ok hv
    · cases h
  · cases h
end X
theorem Rd.build {w W W' : World} {R p c b : Nat} {s : ByteArray} (h : Rd w R s p c W) (hb : Below b W W') (hB : w.heap.size ≤ b) : Rd w R s p c W' :=
  ⟨⟨hb.os.trans h.g.os, hb.tape.trans h.g.tape, hb.output.trans h.g.output, Nat.le_trans h.g.size hb.size, fun k hk hne => (hb.block k (by omega)).trans (h.g.block k hk hne)⟩, by rw [hb.block _ (by have := h.lt; omega)]; exact h.r, h.lt⟩
set_option maxRecDepth 100000 in
set_option maxHeartbeats 4000000 in
theorem value_any {R p c B : Nat} {s : ByteArray} {W : World} (h : Rd W R s p c W) (hp : p ≤ s.size) (hs : s.size ≤ 1000000000000) (hG : Ground B W) (hB : B ≤ R) :
    Calls Tryz.prog 57 #[.pointer (some ⟨R, 0, none⟩)] W (Ends W R s c (X.value (rest s p)) (fun l => .string (X.ba l))) := by
  obtain ⟨RES, hRES⟩ : ∃ x, X.value (rest s p) = x := ⟨_, rfl⟩
  rw [hRES]
  have HLT := hid h.lt
  have HG := hid hG
  have HR := hid h
  have cT1 := take_l (k := 1) [34] ⟨#[34]⟩ rfl rfl h hp hs
  clear h hG
  go_enter Tryz.func57, Tryz.ntmps57
  go_wp2_with fail
  refine cT1.mono ?_
  rintro e w1 (⟨g1, g2, rfl, g3⟩ | ⟨g1, rfl, g3⟩)
  · have HE1 : Hid (s.size - (p + 1) < (rest s p).length + 1 ∧ p + 1 ≤ s.size ∧ ([] : List UInt8).length ≤ 4 * (p + 1) ∧ X.valIn 34 ((rest s p).length + 1) [] (rest s (p + 1)) = RES) := by
      refine ⟨by rw [rest_len]; omega, g2, Nat.zero_le _, ?_⟩
      rw [← hRES, X.value, if_pos g1, rest_drop]
    have HR1 := hid (HR.out.trans g3)
    clear g1 g2 g3 cT1 hRES HR
    go_wp2_with fail
    have HR2 := hid (HR1.out.alloc (.cells #[.pointer none, .slice none 0 0] 117))
    have HH2 := hid (holds_fresh w1)
    have HWB : Hid (W.heap.size ≤ w1.heap.size) := HR1.out.g.size
    obtain ⟨b, hb⟩ : ∃ b, w1.heap.size = b := ⟨_, rfl⟩
    rw [hb] at HH2 HWB ⊢
    clear HR1 hb
    go_loopw [5] (fun v5 wr => ∃ (q k : Nat) (acc : List UInt8), Hid (s.size - q < k ∧ q ≤ s.size ∧ acc.length ≤ 4 * q ∧ X.valIn 34 k acc (rest s q) = RES) ∧ Hid (Rd W R s q c wr) ∧ Hid (Holds b b acc wr)) (fun _ wr => s.size - posOf wr R)
    case atStart => exact ⟨_, _, [], HE1, HR2, HH2⟩
    case round =>
      obtain ⟨q, k, acc, HI, HQ, HB⟩ := hrel
      clear HE1 HR2 HH2
      obtain ⟨h1, h2, h4, h3⟩ := HI.out
      obtain ⟨k, rfl⟩ : ∃ k', k = k' + 1 := ⟨k - 1, by omega⟩
      have cT := take_l (k := 1) [34] ⟨#[34]⟩ rfl rfl HQ.out.own h2 hs
      have HPOS := hid HQ.out.pos
      clear h1 h3
      go_wp2_with fail
      refine cT.mono ?_
      rintro e w2 (⟨g1, g2, rfl, g3⟩ | ⟨g1, rfl, g3⟩)
      · have HE : Hid (RES = .ok (acc, rest s (q + 1)) ∧ s.size - (rest s (q + 1)).length = q + 1) := by
          refine ⟨?_, by rw [rest_len]; omega⟩
          rw [← HI.out.2.2.2, X.valIn, if_pos g1, rest_drop]
        have H1 := hid (HQ.out.trans g3)
        have HB1 := hid (HB.out.grown g3.g (Nat.lt_of_lt_of_le HLT.out HWB.out))
        have cS := string_any b b acc _ HB1.out HB1.out.bw
        clear g1 g2 g3 cT
        go_wp2_with fail
        refine cS.mono ?_
        rintro e w3 ⟨rfl, -, hbl, -⟩
        have H2 := hid (H1.out.build hbl HWB.out)
        clear hbl cS
        go_wp2_with fail
        go_ret
        exact Or.inl ⟨_, _, HE.out.1, rfl, by rw [HE.out.2]; exact H2.out⟩
      · have H1 := hid (HQ.out.below g3)
        have HB1 := hid (HB.out.after g3)
        have HN1 : Hid (¬ [34].isPrefixOf (rest s q) = true) := by show ¬ _; rw [g1]; decide
        have cN := next_l [60] ⟨#[60]⟩ rfl H1.out.own h2
        clear g1 g3 cT
        cases hb : [60].isPrefixOf (rest s q)
        · rw [hb] at cN
          go_wp2_with fail
          refine cN.mono ?_
          rintro e w3 ⟨rfl, g3⟩
          have H2 := hid (H1.out.below g3)
          have HB2 := hid (HB1.out.after g3)
          have cN2 := next_l [38] ⟨#[38]⟩ rfl H2.out.own h2
          clear g3 cN H1 HB1
          cases ha : [38].isPrefixOf (rest s q)
          · rw [ha] at cN2
            have HE : Hid (RES = (match X.char (rest s q) with | .error e => .error e | .ok (c, r) => X.valIn 34 k (acc ++ Go.Proofs.YtakplnceiibmlaaGreatDoor.W.charL (if c < 32 then 32 else c)) r)) := by
              show _ = _
              rw [← HI.out.2.2.2, X.valIn, if_neg HN1.out, hb, ha]
              rfl
            have HF := hid (X.char_fair (rest s q))
            go_wp2_with fail
            refine cN2.mono ?_
            rintro e w4 ⟨rfl, g3⟩
            have H3 := hid (H2.out.below g3)
            have HB3 := hid (HB2.out.after g3)
            have cC := char_any H3.out.own h2 hs (HG.out.rd H3.out hB)
            clear g3 cN2 H2 HB2 ha hb
            go_wp2_with fail
            refine cC.mono ?_
            rintro e w5 (⟨x, r, hx, rfl, hr⟩ | ⟨n, e, hx, rfl, hr⟩)
            · have hsuf := (HF.out.1 _ _ hx).1
              have hlen := (HF.out.1 _ _ hx).2
              have hok := X.char_ok hx
              rw [rest_len] at hlen
              have hpos := rest_pos hsuf h2
              have hre := rest_suf hsuf
              obtain ⟨u, hu⟩ : ∃ u, s.size - r.length = u := ⟨_, rfl⟩
              rw [hu] at hr hpos hre
              have H4 := hid (H3.out.trans hr)
              have HB4 := hid (HB3.out.grown hr.g (Nat.lt_of_lt_of_le HLT.out HWB.out))
              obtain ⟨y, hy⟩ : ∃ y, (if x < 32 then 32 else x) = y := ⟨_, rfl⟩
              have hyok : Go.Proofs.YtakplnceiibmlaaGreatDoor.W.charOk y = true := by rw [← hy]; split; decide; exact hok
              have H5 : Hid (s.size - u < k ∧ u ≤ s.size ∧ (acc ++ Go.Proofs.YtakplnceiibmlaaGreatDoor.W.charL y).length ≤ 4 * u ∧ X.valIn 34 k (acc ++ Go.Proofs.YtakplnceiibmlaaGreatDoor.W.charL y) (rest s u) = RES) := by
                refine ⟨by have := HI.out.1; omega, hpos.2, ?_, ?_⟩
                · have := charL_le y
                  rw [List.length_append]
                  omega
                · rw [HE.out, hx, hre, ← hy]
              have H6 : Hid (s.size - u < s.size - q) := by show _ < _; omega
              have hw := writeRune_any b b acc y hyok _ HB4.out (by omega) HB4.out.bw
              have HY := hid hy
              clear hx hr hsuf hlen hpos hre hu cC HE HF hok hyok hy H3 HB3
              by_cases hlt : x < 32
              · have t0 : decide (x < 32) = true := decide_eq_true hlt
                have HY2 : Hid (32 = y) := by have := HY.out; rw [if_pos hlt] at this; exact this
                rw [← HY2.out] at hw
                clear hlt HY
                go_wp2_with fail
                refine hw.mono ?_
                rintro e w6 ⟨⟨nn, rfl⟩, gh, gb, -⟩
                rw [HY2.out] at gh
                have H7 := hid (H4.out.build gb HWB.out)
                have HB7 := hid gh
                clear gh gb hw H4 HB4
                go_wp2_with fail
                go_roundw
                case rel => exact ⟨_, k, _, H5, H7, HB7⟩
                case measure => rw [H7.out.pos, HPOS.out]; exact H6.out
              · have t0 : decide (x < 32) = false := decide_eq_false hlt
                have HY2 : Hid (x = y) := by have := HY.out; rw [if_neg hlt] at this; exact this
                rw [← HY2.out] at hw
                clear hlt HY
                go_wp2_with fail
                refine hw.mono ?_
                rintro e w6 ⟨⟨nn, rfl⟩, gh, gb, -⟩
                rw [HY2.out] at gh
                have H7 := hid (H4.out.build gb HWB.out)
                have HB7 := hid gh
                clear gh gb hw H4 HB4
                go_wp2_with fail
                go_roundw
                case rel => exact ⟨_, k, _, H5, H7, HB7⟩
                case measure => rw [H7.out.pos, HPOS.out]; exact H6.out
            · have HE2 : Hid (RES = .error (n, e)) := by show _ = _; rw [HE.out, hx]
              exact ⟨rfl, Or.inr ⟨_, _, HE2.out, rfl, H3.out.g.trans hr⟩⟩
          · rw [ha] at cN2
            have HE : Hid (RES = (match X.ref (rest s q) with | .error e => .error e | .ok (c, r) => X.valIn 34 k (acc ++ Go.Proofs.YtakplnceiibmlaaGreatDoor.W.charL c) r)) := by
              show _ = _
              rw [← HI.out.2.2.2, X.valIn, if_neg HN1.out, hb, ha]
              rfl
            have HF := hid (X.ref_fair (rest s q))
            have hq : q < s.size := by
              have := X.pre_len ha
              rw [rest_len] at this
              simp at this
              omega
            go_wp2_with fail
            refine cN2.mono ?_
            rintro e w4 ⟨rfl, g3⟩
            have H3 := hid (H2.out.below g3)
            have HB3 := hid (HB2.out.after g3)
            have cC := reference_any H3.out.own hq hs (HG.out.rd H3.out hB) hB
            clear g3 cN2 H2 HB2 ha hb hq
            go_wp2_with fail
            refine cC.mono ?_
            rintro e w5 (⟨y, r, hx, rfl, hr⟩ | ⟨n, e, hx, rfl, hr⟩)
            · have hsuf := (HF.out.1 _ _ hx).1
              have hlen := (HF.out.1 _ _ hx).2
              have hok := X.ref_ok hx
              rw [rest_len] at hlen
              have hpos := rest_pos hsuf h2
              have hre := rest_suf hsuf
              obtain ⟨u, hu⟩ : ∃ u, s.size - r.length = u := ⟨_, rfl⟩
              rw [hu] at hr hpos hre
              have H4 := hid (H3.out.trans hr)
              have HB4 := hid (HB3.out.grown hr.g (Nat.lt_of_lt_of_le HLT.out HWB.out))
              have H5 : Hid (s.size - u < k ∧ u ≤ s.size ∧ (acc ++ Go.Proofs.YtakplnceiibmlaaGreatDoor.W.charL y).length ≤ 4 * u ∧ X.valIn 34 k (acc ++ Go.Proofs.YtakplnceiibmlaaGreatDoor.W.charL y) (rest s u) = RES) := by
                refine ⟨by have := HI.out.1; omega, hpos.2, ?_, ?_⟩
                · have := charL_le y
                  rw [List.length_append]
                  omega
                · rw [HE.out, hx, hre]
              have H6 : Hid (s.size - u < s.size - q) := by show _ < _; omega
              have hw := writeRune_any b b acc y hok _ HB4.out (by omega) HB4.out.bw
              clear hx hr hsuf hlen hpos hre hu cC HE HF hok H3 HB3
              go_wp2_with fail
              refine hw.mono ?_
              rintro e w6 ⟨⟨nn, rfl⟩, gh, gb, -⟩
              have H7 := hid (H4.out.build gb HWB.out)
              have HB7 := hid gh
              clear gh gb hw H4 HB4
              go_wp2_with fail
              go_roundw
              case rel => exact ⟨_, k, _, H5, H7, HB7⟩
              case measure => rw [H7.out.pos, HPOS.out]; exact H6.out
            · have HE2 : Hid (RES = .error (n, e)) := by show _ = _; rw [HE.out, hx]
              exact ⟨rfl, Or.inr ⟨_, _, HE2.out, rfl, H3.out.g.trans hr⟩⟩
        · rw [hb] at cN
          have HE : Hid (RES = .error (X.bad (rest s q))) := by
            show _ = _
            rw [← HI.out.2.2.2, X.valIn, if_neg HN1.out, if_pos hb]
          clear hb
          go_wp2_with fail
          refine cN.mono ?_
          rintro e w3 ⟨rfl, g3⟩
          have H2 := hid (H1.out.below g3)
          have cB := bad_any H2.out.own h2
          clear g3 cN H1
          go_wp2_with fail
          refine cB.mono ?_
          rintro e w3 ⟨rfl, hbl⟩
          exact ⟨rfl, Or.inr ⟨_, _, HE.out, rfl, (H2.out.below hbl).g⟩⟩
  · have HR0 := hid (HR.out.below g3)
    have cT2 := take_l (k := 1) [39] ⟨#[39]⟩ rfl rfl HR0.out.own hp hs
    have HN0 : Hid (¬ [34].isPrefixOf (rest s p) = true) := by show ¬ _; rw [g1]; decide
    clear g1 g3 cT1 HR
    go_wp2_with fail
    refine cT2.mono ?_
    rintro e w1 (⟨g1, g2, rfl, g3⟩ | ⟨g1, rfl, g3⟩)
    · have HE1 : Hid (s.size - (p + 1) < (rest s p).length + 1 ∧ p + 1 ≤ s.size ∧ ([] : List UInt8).length ≤ 4 * (p + 1) ∧ X.valIn 39 ((rest s p).length + 1) [] (rest s (p + 1)) = RES) := by
        refine ⟨by rw [rest_len]; omega, g2, Nat.zero_le _, ?_⟩
        rw [← hRES, X.value, if_neg HN0.out, if_pos g1, rest_drop]
      have HR1 := hid (HR0.out.trans g3)
      clear g1 g2 g3 cT2 hRES HR0
      go_wp2_with fail
      have HR2 := hid (HR1.out.alloc (.cells #[.pointer none, .slice none 0 0] 117))
      have HH2 := hid (holds_fresh w1)
      have HWB : Hid (W.heap.size ≤ w1.heap.size) := HR1.out.g.size
      obtain ⟨b, hb⟩ : ∃ b, w1.heap.size = b := ⟨_, rfl⟩
      rw [hb] at HH2 HWB ⊢
      clear HR1 hb
      go_loopw [5] (fun v5 wr => ∃ (q k : Nat) (acc : List UInt8), Hid (s.size - q < k ∧ q ≤ s.size ∧ acc.length ≤ 4 * q ∧ X.valIn 39 k acc (rest s q) = RES) ∧ Hid (Rd W R s q c wr) ∧ Hid (Holds b b acc wr)) (fun _ wr => s.size - posOf wr R)
      case atStart => exact ⟨_, _, [], HE1, HR2, HH2⟩
      case round =>
        obtain ⟨q, k, acc, HI, HQ, HB⟩ := hrel
        clear HE1 HR2 HH2
        obtain ⟨h1, h2, h4, h3⟩ := HI.out
        obtain ⟨k, rfl⟩ : ∃ k', k = k' + 1 := ⟨k - 1, by omega⟩
        have cT := take_l (k := 1) [39] ⟨#[39]⟩ rfl rfl HQ.out.own h2 hs
        have HPOS := hid HQ.out.pos
        clear h1 h3
        go_wp2_with fail
        refine cT.mono ?_
        rintro e w2 (⟨g1, g2, rfl, g3⟩ | ⟨g1, rfl, g3⟩)
        · have HE : Hid (RES = .ok (acc, rest s (q + 1)) ∧ s.size - (rest s (q + 1)).length = q + 1) := by
            refine ⟨?_, by rw [rest_len]; omega⟩
            rw [← HI.out.2.2.2, X.valIn, if_pos g1, rest_drop]
          have H1 := hid (HQ.out.trans g3)
          have HB1 := hid (HB.out.grown g3.g (Nat.lt_of_lt_of_le HLT.out HWB.out))
          have cS := string_any b b acc _ HB1.out HB1.out.bw
          clear g1 g2 g3 cT
          go_wp2_with fail
          refine cS.mono ?_
          rintro e w3 ⟨rfl, -, hbl, -⟩
          have H2 := hid (H1.out.build hbl HWB.out)
          clear hbl cS
          go_wp2_with fail
          go_ret
          exact Or.inl ⟨_, _, HE.out.1, rfl, by rw [HE.out.2]; exact H2.out⟩
        · have H1 := hid (HQ.out.below g3)
          have HB1 := hid (HB.out.after g3)
          have HN1 : Hid (¬ [39].isPrefixOf (rest s q) = true) := by show ¬ _; rw [g1]; decide
          have cN := next_l [60] ⟨#[60]⟩ rfl H1.out.own h2
          clear g1 g3 cT
          cases hb : [60].isPrefixOf (rest s q)
          · rw [hb] at cN
            go_wp2_with fail
            refine cN.mono ?_
            rintro e w3 ⟨rfl, g3⟩
            have H2 := hid (H1.out.below g3)
            have HB2 := hid (HB1.out.after g3)
            have cN2 := next_l [38] ⟨#[38]⟩ rfl H2.out.own h2
            clear g3 cN H1 HB1
            cases ha : [38].isPrefixOf (rest s q)
            · rw [ha] at cN2
              have HE : Hid (RES = (match X.char (rest s q) with | .error e => .error e | .ok (c, r) => X.valIn 39 k (acc ++ Go.Proofs.YtakplnceiibmlaaGreatDoor.W.charL (if c < 32 then 32 else c)) r)) := by
                show _ = _
                rw [← HI.out.2.2.2, X.valIn, if_neg HN1.out, hb, ha]
                rfl
              have HF := hid (X.char_fair (rest s q))
              go_wp2_with fail
              refine cN2.mono ?_
              rintro e w4 ⟨rfl, g3⟩
              have H3 := hid (H2.out.below g3)
              have HB3 := hid (HB2.out.after g3)
              have cC := char_any H3.out.own h2 hs (HG.out.rd H3.out hB)
              clear g3 cN2 H2 HB2 ha hb
              go_wp2_with fail
              refine cC.mono ?_
              rintro e w5 (⟨x, r, hx, rfl, hr⟩ | ⟨n, e, hx, rfl, hr⟩)
              · have hsuf := (HF.out.1 _ _ hx).1
                have hlen := (HF.out.1 _ _ hx).2
                have hok := X.char_ok hx
                rw [rest_len] at hlen
                have hpos := rest_pos hsuf h2
                have hre := rest_suf hsuf
                obtain ⟨u, hu⟩ : ∃ u, s.size - r.length = u := ⟨_, rfl⟩
                rw [hu] at hr hpos hre
                have H4 := hid (H3.out.trans hr)
                have HB4 := hid (HB3.out.grown hr.g (Nat.lt_of_lt_of_le HLT.out HWB.out))
                obtain ⟨y, hy⟩ : ∃ y, (if x < 32 then 32 else x) = y := ⟨_, rfl⟩
                have hyok : Go.Proofs.YtakplnceiibmlaaGreatDoor.W.charOk y = true := by rw [← hy]; split; decide; exact hok
                have H5 : Hid (s.size - u < k ∧ u ≤ s.size ∧ (acc ++ Go.Proofs.YtakplnceiibmlaaGreatDoor.W.charL y).length ≤ 4 * u ∧ X.valIn 39 k (acc ++ Go.Proofs.YtakplnceiibmlaaGreatDoor.W.charL y) (rest s u) = RES) := by
                  refine ⟨by have := HI.out.1; omega, hpos.2, ?_, ?_⟩
                  · have := charL_le y
                    rw [List.length_append]
                    omega
                  · rw [HE.out, hx, hre, ← hy]
                have H6 : Hid (s.size - u < s.size - q) := by show _ < _; omega
                have hw := writeRune_any b b acc y hyok _ HB4.out (by omega) HB4.out.bw
                have HY := hid hy
                clear hx hr hsuf hlen hpos hre hu cC HE HF hok hyok hy H3 HB3
                by_cases hlt : x < 32
                · have t0 : decide (x < 32) = true := decide_eq_true hlt
                  have HY2 : Hid (32 = y) := by have := HY.out; rw [if_pos hlt] at this; exact this
                  rw [← HY2.out] at hw
                  clear hlt HY
                  go_wp2_with fail
                  refine hw.mono ?_
                  rintro e w6 ⟨⟨nn, rfl⟩, gh, gb, -⟩
                  rw [HY2.out] at gh
                  have H7 := hid (H4.out.build gb HWB.out)
                  have HB7 := hid gh
                  clear gh gb hw H4 HB4
                  go_wp2_with fail
                  go_roundw
                  case rel => exact ⟨_, k, _, H5, H7, HB7⟩
                  case measure => rw [H7.out.pos, HPOS.out]; exact H6.out
                · have t0 : decide (x < 32) = false := decide_eq_false hlt
                  have HY2 : Hid (x = y) := by have := HY.out; rw [if_neg hlt] at this; exact this
                  rw [← HY2.out] at hw
                  clear hlt HY
                  go_wp2_with fail
                  refine hw.mono ?_
                  rintro e w6 ⟨⟨nn, rfl⟩, gh, gb, -⟩
                  rw [HY2.out] at gh
                  have H7 := hid (H4.out.build gb HWB.out)
                  have HB7 := hid gh
                  clear gh gb hw H4 HB4
                  go_wp2_with fail
                  go_roundw
                  case rel => exact ⟨_, k, _, H5, H7, HB7⟩
                  case measure => rw [H7.out.pos, HPOS.out]; exact H6.out
              · have HE2 : Hid (RES = .error (n, e)) := by show _ = _; rw [HE.out, hx]
                exact ⟨rfl, Or.inr ⟨_, _, HE2.out, rfl, H3.out.g.trans hr⟩⟩
            · rw [ha] at cN2
              have HE : Hid (RES = (match X.ref (rest s q) with | .error e => .error e | .ok (c, r) => X.valIn 39 k (acc ++ Go.Proofs.YtakplnceiibmlaaGreatDoor.W.charL c) r)) := by
                show _ = _
                rw [← HI.out.2.2.2, X.valIn, if_neg HN1.out, hb, ha]
                rfl
              have HF := hid (X.ref_fair (rest s q))
              have hq : q < s.size := by
                have := X.pre_len ha
                rw [rest_len] at this
                simp at this
                omega
              go_wp2_with fail
              refine cN2.mono ?_
              rintro e w4 ⟨rfl, g3⟩
              have H3 := hid (H2.out.below g3)
              have HB3 := hid (HB2.out.after g3)
              have cC := reference_any H3.out.own hq hs (HG.out.rd H3.out hB) hB
              clear g3 cN2 H2 HB2 ha hb hq
              go_wp2_with fail
              refine cC.mono ?_
              rintro e w5 (⟨y, r, hx, rfl, hr⟩ | ⟨n, e, hx, rfl, hr⟩)
              · have hsuf := (HF.out.1 _ _ hx).1
                have hlen := (HF.out.1 _ _ hx).2
                have hok := X.ref_ok hx
                rw [rest_len] at hlen
                have hpos := rest_pos hsuf h2
                have hre := rest_suf hsuf
                obtain ⟨u, hu⟩ : ∃ u, s.size - r.length = u := ⟨_, rfl⟩
                rw [hu] at hr hpos hre
                have H4 := hid (H3.out.trans hr)
                have HB4 := hid (HB3.out.grown hr.g (Nat.lt_of_lt_of_le HLT.out HWB.out))
                have H5 : Hid (s.size - u < k ∧ u ≤ s.size ∧ (acc ++ Go.Proofs.YtakplnceiibmlaaGreatDoor.W.charL y).length ≤ 4 * u ∧ X.valIn 39 k (acc ++ Go.Proofs.YtakplnceiibmlaaGreatDoor.W.charL y) (rest s u) = RES) := by
                  refine ⟨by have := HI.out.1; omega, hpos.2, ?_, ?_⟩
                  · have := charL_le y
                    rw [List.length_append]
                    omega
                  · rw [HE.out, hx, hre]
                have H6 : Hid (s.size - u < s.size - q) := by show _ < _; omega
                have hw := writeRune_any b b acc y hok _ HB4.out (by omega) HB4.out.bw
                clear hx hr hsuf hlen hpos hre hu cC HE HF hok H3 HB3
                go_wp2_with fail
                refine hw.mono ?_
                rintro e w6 ⟨⟨nn, rfl⟩, gh, gb, -⟩
                have H7 := hid (H4.out.build gb HWB.out)
                have HB7 := hid gh
                clear gh gb hw H4 HB4
                go_wp2_with fail
                go_roundw
                case rel => exact ⟨_, k, _, H5, H7, HB7⟩
                case measure => rw [H7.out.pos, HPOS.out]; exact H6.out
              · have HE2 : Hid (RES = .error (n, e)) := by show _ = _; rw [HE.out, hx]
                exact ⟨rfl, Or.inr ⟨_, _, HE2.out, rfl, H3.out.g.trans hr⟩⟩
          · rw [hb] at cN
            have HE : Hid (RES = .error (X.bad (rest s q))) := by
              show _ = _
              rw [← HI.out.2.2.2, X.valIn, if_neg HN1.out, if_pos hb]
            clear hb
            go_wp2_with fail
            refine cN.mono ?_
            rintro e w3 ⟨rfl, g3⟩
            have H2 := hid (H1.out.below g3)
            have cB := bad_any H2.out.own h2
            clear g3 cN H1
            go_wp2_with fail
            refine cB.mono ?_
            rintro e w3 ⟨rfl, hbl⟩
            exact ⟨rfl, Or.inr ⟨_, _, HE.out, rfl, (H2.out.below hbl).g⟩⟩
    · have HE : Hid (RES = .error (X.bad (rest s p))) := by
        show _ = _
        rw [← hRES, X.value, if_neg HN0.out, if_neg (by rw [g1]; decide)]
      have HR1 := hid (HR0.out.below g3)
      have cB := bad_any HR1.out.own hp
      clear g1 g3 cT2 hRES HR0
      go_wp2_with fail
      refine cB.mono ?_
      rintro e w2 ⟨rfl, hbl⟩
      exact ⟨rfl, Or.inr ⟨_, _, HE.out, rfl, (HR1.out.below hbl).g⟩⟩

end Go.Proofs.YtakplnceiibmlaaGreatDoor
