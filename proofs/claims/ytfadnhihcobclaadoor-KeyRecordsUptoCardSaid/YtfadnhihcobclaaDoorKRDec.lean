/- The walk of the reference's read at its head; the reference's Decode. -/
import Derived.Test.YtfadnhihcobclaaDoorKRRead
namespace Go.Proofs.YtfadnhihcobclaaDoor
open Go.RowKit
open Go.Lib (hid)
open K
set_option maxRecDepth 100000 in
set_option maxHeartbeats 16000000 in
theorem readA_any (s : ByteArray) (w : World) (hs : s.size ≤ 110000) :
    Calls Tryd.prog 46 #[.string s, .int .i64 0, .int .i64 (-1), .int .i64 0] w (ReadOf s (ra s.data.toList) w) := by
    obtain ⟨R, hR⟩ : ∃ R, ra s.data.toList = R := ⟨_, rfl⟩
    rw [hR]
    have HR := hid hR
    clear hR
    have IH := hid (readB_any (s.size + 1))
    go_enter Tryd.func46, Tryd.ntmps46
    go_wp2_with fail
    go_loopw [1, 11, 12] (fun av v kv wr => ∃ (i k : Nat) (acc : Items), av = .int .i64 (i : Int) ∧ kv = .int .i64 (k : Int) ∧ i ≤ s.size ∧ 0 ≤ i ∧ k ≤ i ∧ Hid (acc.length = k) ∧ Hid (IOwn 74 w.heap.size acc v wr) ∧ Hid (Below w.heap.size w wr) ∧ Hid (R = (ra (s.data.toList.drop i)).app acc)) (fun av _ kv _ => s.size - (intOf av).toNat)
    case atStart => exact ⟨0, 0, .nil, rfl, rfl, by omega, by omega, by omega, rfl, IOwn.nil _ _ _, Below.refl _ _, by show R = _; rw [Rd.app_nil]; rw [List.drop_zero]; exact HR.out.symm⟩
    case round =>
      obtain ⟨i, k, acc, rfl, rfl, hi, hai, hki, hlen, hI, hB, hrd⟩ := hrel
      clear HR
      by_cases hend : i < s.size
      · have q0 : decide ((i : Int) < (s.size : Int)) = true := by simp; omega
        by_cases htriv : True
        · have q1 : decide ((s.size : Int) ≤ (i : Int)) = false := by simp; omega
          have hdr := drop_cons s i hend
          have hst : R = (K.step 0 (fun l => ra (l)) (s.data.toList.drop i)).app acc := by rw [hrd.out, hdr, ra_cons, ← hdr]
          rw [hdr] at hst
          unfold K.step at hst
          rw [hd] at hst
          have hc8 := s[i].toNat_lt
          have cN := rnum_any s (i + 1) wr (by omega) (by omega)
          rw [nat_cast1] at cN
          rw [uvar_uv2] at hst
          obtain ⟨x, hx⟩ : ∃ x, s[i].toNat = x := ⟨_, rfl⟩
          rw [hx] at hst hc8
          have HB := hid hB.out
          clear hdr hrd hB
          by_cases hk : x < 1 ∨ 3 < x
          · have HE : Hid (R = .bad 4) := by
              show _ = _
              rw [hst]
              cases uv2 (s.data.toList.drop (i + 1)) with
              | none => rfl
              | some p =>
                simp only [Option.map_some, hdK]
                rw [if_neg (by omega), if_neg (by omega), if_neg (by omega)]; rfl
            clear hst cN
            rcases hk with hk | hk
            · have q2 : decide ((x : Int) < 1) = true := by simp; omega
              go_wp2_with fail
              go_ret3
              exact readOf_bad HE.out HB.out
            · have q2 : decide ((x : Int) < 1) = false := by simp; omega
              have q3 : decide ((3 : Int) < (x : Int)) = true := by simp; omega
              go_wp2_with fail
              go_ret3
              exact readOf_bad HE.out HB.out
          · have q2 : decide ((x : Int) < 1) = false := by simp; omega
            have q3 : decide ((3 : Int) < (x : Int)) = false := by simp; omega
            cases hu : uv2 (s.data.toList.drop (i + 1)) with
            | none =>
              rw [hu] at hst cN
              have HE : Hid (R = .bad 4) := hst
              simp only [numV] at cN
              clear hst hu hk
              go_wp2_with fail
              refine cN.mono ?_
              rintro e w1 ⟨rfl, rfl⟩
              go_wp2_with fail
              go_ret3
              exact readOf_bad HE.out HB.out
            | some p =>
              obtain ⟨n, u⟩ := p
              obtain ⟨hu1, hu2, hu3⟩ := uv2_len hu
              rw [List.length_drop, Array.length_toList] at hu2
              have hu2' : i + 1 + u ≤ s.size := by
                have : u ≤ s.data.size - (i + 1) := hu2
                have e : s.data.size = s.size := rfl
                omega
              rw [hu] at hst cN
              simp only [numV] at cN
              simp only [Option.map_some, List.drop_drop] at hst
              obtain ⟨j, hj⟩ : ∃ j, i + 1 + u = j := ⟨_, rfl⟩
              rw [hj] at hst cN hu2'
              have hij : i < j := by omega
              have q4 : decide ((j : Int) < 0) = false := decide_eq_false (by omega)
              clear hu hu1 hu2 hj
              rcases (by omega : x = 1 ∨ x = 2 ∨ x = 3) with hk1 | hk1 | hk1
              · subst hk1
                simp only [hdK, if_true] at hst
                have hh : ((n : Int) / 2) = ((n / 2 : Nat) : Int) := by omega
                have hand := and_one n hu3
                obtain ⟨v, hv⟩ : ∃ v, n / 2 = v := ⟨_, rfl⟩
                have hv63 : v < 9223372036854775808 := by omega
                rw [hv] at hh
                by_cases h2 : n % 2 = 0
                · have HU : Hid (unzig n = (v : Int)) := by show _ = _; unfold unzig; rw [if_pos h2, hv]
                  rw [h2] at hand
                  replace hand : bits .and .u64 (n : Int) 1 = 0 := hand
                  have HRD : Hid (R = (ra (s.data.toList.drop j)).app (acc.app (.one 1 (v : Int) ⟨#[]⟩ .nil))) := by
                    show _ = _
                    rw [hst, Rd.app_app, HU.out]
                  clear hst h2 hv hk
                  go_wp2_with fail
                  refine cN.mono ?_
                  rintro e w1 ⟨rfl, rfl⟩
                  clear cN
                  go_upto_region 26 with fail
                  have hR6 : IOwn 74 w.heap.size acc u11 (w1.alloc (.cells #[.int .u8 1, .int .i64 (v : Int), .string ⟨#[]⟩, .slice none 0 0] 74)) := hI.out.alloc _
                  have hm6 : (Items.nil).Lies (w1.alloc (.cells #[.int .u8 1, .int .i64 (v : Int), .string ⟨#[]⟩, .slice none 0 0] 74)) (fun b => w.heap.size ≤ b ∧ b < (w1.alloc (.cells #[.int .u8 1, .int .i64 (v : Int), .string ⟨#[]⟩, .slice none 0 0] 74)).heap.size ∧ u11.ownBlock ≠ some b) (.slice none 0 0) := Or.inl ⟨rfl, rfl⟩
                  have hg6 := heap_alloc_new w1 (.cells #[.int .u8 1, .int .i64 (v : Int), .string ⟨#[]⟩, .slice none 0 0] 74)
                  have hlA : acc.length ≤ 1000000000 := by have := hlen.out; omega
                  have hszW := HB.out.size
                  have HLW := hid hR6.lt
                  go_wp2_with (at_builtin; refine wpList_pushI itemTR rfl _ _ rfl w.heap.size acc u11 w1.heap.size 1 (v : Int) ⟨#[]⟩ .nil (.slice none 0 0) rfl rfl hR6 hm6 hg6 hlA (by simp; omega) ?_)
                  intro v' w6 hI6 hgrow
                  have HI6 := hid hI6
                  have HB6 := hid ((HB.out.alloc (by omega) (.cells #[.int .u8 1, .int .i64 (v : Int), .string ⟨#[]⟩, .slice none 0 0] 74)).grown hgrow (by simp; omega) (fun k hk => (HLW.out k hk).1))
                  have HL6 : Hid ((acc.app (.one 1 (v : Int) ⟨#[]⟩ .nil)).length = k + 1) := by
                    show _ = _
                    rw [Items.app_length, hlen.out]; rfl
                  clear hI6 hgrow hR6 hm6 hg6 hlA HLW hI hlen HB
                  go_wp2_with fail
                  go_roundw
                  case rel => exact ⟨j, k + 1, _, rfl, by go_num, by omega, by omega, by omega, HL6, HI6, HB6, HRD⟩
                  case measure => simp [intOf] <;> omega
                · have HU : Hid (unzig n = -(v : Int) - 1) := by show _ = _; unfold unzig; rw [if_neg h2, hv]
                  rw [show n % 2 = 1 by omega] at hand
                  replace hand : bits .and .u64 (n : Int) 1 = 1 := hand
                  have HRD : Hid (R = (ra (s.data.toList.drop j)).app (acc.app (.one 1 (-(v : Int) - 1) ⟨#[]⟩ .nil))) := by
                    show _ = _
                    rw [hst, Rd.app_app, HU.out]
                  have hxi : bits .xor .i64 (if IntKind.i64.signed = true then -1 else 9223372036854775807) (v : Int) = -(v : Int) - 1 := by
                    show bits .xor .i64 (-1) (v : Int) = _; rw [bits_xor_comm]; exact i64_xor_ones v hv63
                  clear hst h2 hv hk
                  go_wp2_with fail
                  refine cN.mono ?_
                  rintro e w1 ⟨rfl, rfl⟩
                  clear cN
                  go_upto_region 26 with fail
                  have hR6 : IOwn 74 w.heap.size acc u11 (w1.alloc (.cells #[.int .u8 1, .int .i64 (-(v : Int) - 1), .string ⟨#[]⟩, .slice none 0 0] 74)) := hI.out.alloc _
                  have hm6 : (Items.nil).Lies (w1.alloc (.cells #[.int .u8 1, .int .i64 (-(v : Int) - 1), .string ⟨#[]⟩, .slice none 0 0] 74)) (fun b => w.heap.size ≤ b ∧ b < (w1.alloc (.cells #[.int .u8 1, .int .i64 (-(v : Int) - 1), .string ⟨#[]⟩, .slice none 0 0] 74)).heap.size ∧ u11.ownBlock ≠ some b) (.slice none 0 0) := Or.inl ⟨rfl, rfl⟩
                  have hg6 := heap_alloc_new w1 (.cells #[.int .u8 1, .int .i64 (-(v : Int) - 1), .string ⟨#[]⟩, .slice none 0 0] 74)
                  have hlA : acc.length ≤ 1000000000 := by have := hlen.out; omega
                  have hszW := HB.out.size
                  have HLW := hid hR6.lt
                  go_wp2_with (at_builtin; refine wpList_pushI itemTR rfl _ _ rfl w.heap.size acc u11 w1.heap.size 1 (-(v : Int) - 1) ⟨#[]⟩ .nil (.slice none 0 0) rfl rfl hR6 hm6 hg6 hlA (by simp; omega) ?_)
                  intro v' w6 hI6 hgrow
                  have HI6 := hid hI6
                  have HB6 := hid ((HB.out.alloc (by omega) (.cells #[.int .u8 1, .int .i64 (-(v : Int) - 1), .string ⟨#[]⟩, .slice none 0 0] 74)).grown hgrow (by simp; omega) (fun k hk => (HLW.out k hk).1))
                  have HL6 : Hid ((acc.app (.one 1 (-(v : Int) - 1) ⟨#[]⟩ .nil)).length = k + 1) := by
                    show _ = _
                    rw [Items.app_length, hlen.out]; rfl
                  clear hI6 hgrow hR6 hm6 hg6 hlA HLW hI hlen HB
                  go_wp2_with fail
                  go_roundw
                  case rel => exact ⟨j, k + 1, _, rfl, by go_num, by omega, by omega, by omega, HL6, HI6, HB6, HRD⟩
                  case measure => simp [intOf] <;> omega
              · subst hk1
                have hrl : (s.data.toList.drop j).length = s.size - j := by rw [List.length_drop, Array.length_toList]; rfl
                simp only [hdK, if_true] at hst
                rw [if_neg (by decide), hrl] at hst
                have hjs : (j : Int) ≤ (s.size : Int) := by omega
                by_cases hc : s.size - j < n
                · have q5 : decide ((s.size : Int) - (j : Int) < (n : Int)) = true := decide_eq_true (by omega)
                  rw [if_pos hc] at hst
                  have HE : Hid (R = .bad 4) := hst
                  clear hst hk
                  go_wp2_with fail
                  refine cN.mono ?_
                  rintro e w1 ⟨rfl, rfl⟩
                  clear cN
                  go_wp2_with fail
                  go_ret3
                  exact readOf_bad HE.out HB.out
                · have q5 : decide ((s.size : Int) - (j : Int) < (n : Int)) = false := decide_eq_false (by omega)
                  rw [if_neg hc] at hst
                  have hn1 : (n : Int) ≤ 110000 := by omega
                  have hjn : (j : Int) + (n : Int) ≤ (s.size : Int) := by omega
                  have hj0 : (0 : Int) ≤ (j : Int) := by omega
                  have hjj : (j : Int) ≤ (j : Int) + (n : Int) := by omega
                  have HX : Hid ((⟨((s.data.toList.drop j).take n).toArray⟩ : ByteArray) = s.extract j (j + n)) := by
                    show _ = _
                    have e := extract_cut s j (j + n)
                    rw [show j + n - j = n by omega] at e
                    rw [← e]
                  have HRD : Hid (R = (ra (s.data.toList.drop (j + n))).app (acc.app (.one 2 0 (s.extract j (j + n)) .nil))) := by
                    show _ = _
                    rw [hst]
                    simp only [List.drop_drop]
                    rw [HX.out, Rd.app_app]
                  clear hst hk HX
                  go_wp2_with fail
                  refine cN.mono ?_
                  rintro e w1 ⟨rfl, rfl⟩
                  clear cN
                  go_upto_region 30 with fail
                  have hR6 : IOwn 74 w.heap.size acc u11 (w1.alloc (.cells #[.int .u8 2, .int .i64 0, .string (s.extract j (j + n)), .slice none 0 0] 74)) := hI.out.alloc _
                  have hm6 : (Items.nil).Lies (w1.alloc (.cells #[.int .u8 2, .int .i64 0, .string (s.extract j (j + n)), .slice none 0 0] 74)) (fun b => w.heap.size ≤ b ∧ b < (w1.alloc (.cells #[.int .u8 2, .int .i64 0, .string (s.extract j (j + n)), .slice none 0 0] 74)).heap.size ∧ u11.ownBlock ≠ some b) (.slice none 0 0) := Or.inl ⟨rfl, rfl⟩
                  have hg6 := heap_alloc_new w1 (.cells #[.int .u8 2, .int .i64 0, .string (s.extract j (j + n)), .slice none 0 0] 74)
                  have hlA : acc.length ≤ 1000000000 := by have := hlen.out; omega
                  have hszW := HB.out.size
                  have HLW := hid hR6.lt
                  go_wp2_with (at_builtin; refine wpList_pushI itemTR rfl _ _ rfl w.heap.size acc u11 w1.heap.size 2 0 (s.extract j (j + n)) .nil (.slice none 0 0) rfl rfl hR6 hm6 hg6 hlA (by simp; omega) ?_)
                  intro v' w6 hI6 hgrow
                  have HI6 := hid hI6
                  have HB6 := hid ((HB.out.alloc (by omega) (.cells #[.int .u8 2, .int .i64 0, .string (s.extract j (j + n)), .slice none 0 0] 74)).grown hgrow (by simp; omega) (fun k hk => (HLW.out k hk).1))
                  have HL6 : Hid ((acc.app (.one 2 0 (s.extract j (j + n)) .nil)).length = k + 1) := by
                    show _ = _
                    rw [Items.app_length, hlen.out]; rfl
                  clear hI6 hgrow hR6 hm6 hg6 hlA HLW hI hlen HB
                  go_wp2_with fail
                  go_roundw
                  case rel => exact ⟨(j + n), k + 1, _, by go_num, by go_num, by omega, by omega, by omega, HL6, HI6, HB6, HRD⟩
                  case measure => simp [intOf] <;> omega
              · subst hk1
                simp only [hdK, if_true] at hst
                rw [if_neg (by decide), if_neg (by decide)] at hst
                by_cases hd6 : 0 = 16
                · exact absurd hd6 (by decide)
                · have q5 : ((0 : Int) == 16) = false := rfl
                  rw [if_neg hd6] at hst
                  simp only at hst
                  have hd15 : 0 + 1 ≤ 16 := by omega
                  go_wp2_with fail
                  refine cN.mono ?_
                  rintro e w1 ⟨rfl, rfl⟩
                  by_cases hbig : s.size < n
                  · have q6 : decide ((s.size : Int) < (n : Int)) = true := decide_eq_true (by omega)
                    have hcall : rd n (0 + 1) (s.data.toList.drop j) = rd (s.size + 1) (0 + 1) (s.data.toList.drop j) :=
                      rd_many _ _ (Nat.le_refl _) _ _ _ (by rw [List.length_drop, Array.length_toList]; have e : s.data.size = s.size := rfl; omega) (by rw [List.length_drop, Array.length_toList]; have e : s.data.size = s.size := rfl; omega)
                    have cR := IH.out s j (s.size + 1) (0 + 1) w1 (by omega) hu2' hs (by omega) (by omega)
                    rw [← hcall, show (((0 + 1 : Nat)) : Int) = 1 from rfl] at cR
                    clear cN hk hcall
                    go_wp2_with fail
                    refine cR.mono ?_
                    rintro e w2 ⟨b1, hans⟩
                    have HI1 := hid (hI.out.below b1)
                    have hb1 := b1.size
                    have HB1 := hid (HB.out.trans (b1.mono HB.out.size))
                    have hslt := fun (x : Items) (v : Value) (h : x.Lies w2 (fun b => w1.heap.size ≤ b ∧ b < w2.heap.size) v) => lies_own (B := w.heap.size) (S := w1.heap.size) (g0 := u11.ownBlock) (fun k hk => (hI.out.lt k hk).2) h HB.out.size
                    have HSL := hid hslt
                    clear cR b1 hI hslt HB
                    have HB := hid HB1.out
                    have hI := hid HI1.out
                    clear HB1 HI1
                    rcases hans with ⟨er, hb, rfl⟩ | ⟨x, v, en, hok, hen, rfl, hv⟩
                    · have HE : Hid (R = .bad er) := by
                        show _ = _
                        rw [hst, hb]; rfl
                      have hne : (er != 0) = true := by rw [bne_iff_ne]; exact rd_bad _ _ (Nat.lt_succ_self _) _ _ er hb
                      clear hst hb
                      go_wp2_with fail
                      go_ret3
                      exact readOf_bad HE.out HB.out
                    · have hel : j ≤ en := by
                        have := rd_len hok
                        rw [List.length_drop, List.length_drop, Array.length_toList] at this
                        have e : s.data.size = s.size := rfl
                        omega
                      have HRD : Hid (R = (ra (s.data.toList.drop en)).app (acc.app (.one 3 0 ⟨#[]⟩ x))) := by
                        show _ = _
                        rw [hst, hok]
                        simp only
                        rw [Rd.app_app]
                      obtain ⟨ma, mn, mc, hmv'⟩ : ∃ a n c, v = .slice a n c := by
                        rcases hv with ⟨h, _⟩ | ⟨b, o, c, h, _⟩
                        · exact ⟨none, 0, 0, h⟩
                        · exact ⟨_, _, _, h⟩
                      subst hmv'
                      have HM := hid (HSL.out x _ hv)
                      clear hst hok hv HSL
                      go_upto_region 20 with fail
                      have hR6 : IOwn 74 w.heap.size acc u11 (w2.alloc (.cells #[.int .u8 3, .int .i64 0, .string ⟨#[]⟩, .slice ma mn mc] 74)) := hI.out.alloc _
                      have hm6 : x.Lies (w2.alloc (.cells #[.int .u8 3, .int .i64 0, .string ⟨#[]⟩, .slice ma mn mc] 74)) (fun b => w.heap.size ≤ b ∧ b < (w2.alloc (.cells #[.int .u8 3, .int .i64 0, .string ⟨#[]⟩, .slice ma mn mc] 74)).heap.size ∧ u11.ownBlock ≠ some b) (.slice ma mn mc) := (HM.out.below ((Below.refl w2.heap.size w2).alloc (Nat.le_refl _) (.cells #[.int .u8 3, .int .i64 0, .string ⟨#[]⟩, .slice ma mn mc] 74)) (fun b hb => hb.2.1)).mono (fun b hb => ⟨hb.1, by have := hb.2.1; simp; omega, hb.2.2⟩)
                      have hg6 := heap_alloc_new w2 (.cells #[.int .u8 3, .int .i64 0, .string ⟨#[]⟩, .slice ma mn mc] 74)
                      have hlA : acc.length ≤ 1000000000 := by have := hlen.out; omega
                      have hszW := HB.out.size
                      have HLW := hid hR6.lt
                      go_wp2_with (at_builtin; refine wpList_pushI itemTR rfl _ _ rfl w.heap.size acc u11 w2.heap.size 3 0 ⟨#[]⟩ x (.slice ma mn mc) rfl rfl hR6 hm6 hg6 hlA (by simp; omega) ?_)
                      intro v' w6 hI6 hgrow
                      have HI6 := hid hI6
                      have HB6 := hid ((HB.out.alloc (by omega) (.cells #[.int .u8 3, .int .i64 0, .string ⟨#[]⟩, .slice ma mn mc] 74)).grown hgrow (by simp; omega) (fun k hk => (HLW.out k hk).1))
                      have HL6 : Hid ((acc.app (.one 3 0 ⟨#[]⟩ x)).length = k + 1) := by
                        show _ = _
                        rw [Items.app_length, hlen.out]; rfl
                      clear hI6 hgrow hR6 hm6 hg6 hlA HLW hI hlen HB
                      go_wp2_with fail
                      go_roundw
                      case rel => exact ⟨en, k + 1, _, rfl, by go_num, by omega, by omega, by omega, HL6, HI6, HB6, HRD⟩
                      case measure => simp [intOf] <;> omega
                  · have q6 : decide ((s.size : Int) < (n : Int)) = false := decide_eq_false (by omega)
                    have hcall : rd n (0 + 1) (s.data.toList.drop j) = rd n (0 + 1) (s.data.toList.drop j) := rfl
                    have cR := IH.out s j (n) (0 + 1) w1 (by omega) hu2' hs (by omega) (by omega)
                    rw [← hcall, show (((0 + 1 : Nat)) : Int) = 1 from rfl] at cR
                    clear cN hk hcall
                    go_wp2_with fail
                    refine cR.mono ?_
                    rintro e w2 ⟨b1, hans⟩
                    have HI1 := hid (hI.out.below b1)
                    have hb1 := b1.size
                    have HB1 := hid (HB.out.trans (b1.mono HB.out.size))
                    have hslt := fun (x : Items) (v : Value) (h : x.Lies w2 (fun b => w1.heap.size ≤ b ∧ b < w2.heap.size) v) => lies_own (B := w.heap.size) (S := w1.heap.size) (g0 := u11.ownBlock) (fun k hk => (hI.out.lt k hk).2) h HB.out.size
                    have HSL := hid hslt
                    clear cR b1 hI hslt HB
                    have HB := hid HB1.out
                    have hI := hid HI1.out
                    clear HB1 HI1
                    rcases hans with ⟨er, hb, rfl⟩ | ⟨x, v, en, hok, hen, rfl, hv⟩
                    · have HE : Hid (R = .bad er) := by
                        show _ = _
                        rw [hst, hb]; rfl
                      have hne : (er != 0) = true := by rw [bne_iff_ne]; exact rd_bad _ _ (Nat.lt_succ_self _) _ _ er hb
                      clear hst hb
                      go_wp2_with fail
                      go_ret3
                      exact readOf_bad HE.out HB.out
                    · have hel : j ≤ en := by
                        have := rd_len hok
                        rw [List.length_drop, List.length_drop, Array.length_toList] at this
                        have e : s.data.size = s.size := rfl
                        omega
                      have HRD : Hid (R = (ra (s.data.toList.drop en)).app (acc.app (.one 3 0 ⟨#[]⟩ x))) := by
                        show _ = _
                        rw [hst, hok]
                        simp only
                        rw [Rd.app_app]
                      obtain ⟨ma, mn, mc, hmv'⟩ : ∃ a n c, v = .slice a n c := by
                        rcases hv with ⟨h, _⟩ | ⟨b, o, c, h, _⟩
                        · exact ⟨none, 0, 0, h⟩
                        · exact ⟨_, _, _, h⟩
                      subst hmv'
                      have HM := hid (HSL.out x _ hv)
                      clear hst hok hv HSL
                      go_upto_region 20 with fail
                      have hR6 : IOwn 74 w.heap.size acc u11 (w2.alloc (.cells #[.int .u8 3, .int .i64 0, .string ⟨#[]⟩, .slice ma mn mc] 74)) := hI.out.alloc _
                      have hm6 : x.Lies (w2.alloc (.cells #[.int .u8 3, .int .i64 0, .string ⟨#[]⟩, .slice ma mn mc] 74)) (fun b => w.heap.size ≤ b ∧ b < (w2.alloc (.cells #[.int .u8 3, .int .i64 0, .string ⟨#[]⟩, .slice ma mn mc] 74)).heap.size ∧ u11.ownBlock ≠ some b) (.slice ma mn mc) := (HM.out.below ((Below.refl w2.heap.size w2).alloc (Nat.le_refl _) (.cells #[.int .u8 3, .int .i64 0, .string ⟨#[]⟩, .slice ma mn mc] 74)) (fun b hb => hb.2.1)).mono (fun b hb => ⟨hb.1, by have := hb.2.1; simp; omega, hb.2.2⟩)
                      have hg6 := heap_alloc_new w2 (.cells #[.int .u8 3, .int .i64 0, .string ⟨#[]⟩, .slice ma mn mc] 74)
                      have hlA : acc.length ≤ 1000000000 := by have := hlen.out; omega
                      have hszW := HB.out.size
                      have HLW := hid hR6.lt
                      go_wp2_with (at_builtin; refine wpList_pushI itemTR rfl _ _ rfl w.heap.size acc u11 w2.heap.size 3 0 ⟨#[]⟩ x (.slice ma mn mc) rfl rfl hR6 hm6 hg6 hlA (by simp; omega) ?_)
                      intro v' w6 hI6 hgrow
                      have HI6 := hid hI6
                      have HB6 := hid ((HB.out.alloc (by omega) (.cells #[.int .u8 3, .int .i64 0, .string ⟨#[]⟩, .slice ma mn mc] 74)).grown hgrow (by simp; omega) (fun k hk => (HLW.out k hk).1))
                      have HL6 : Hid ((acc.app (.one 3 0 ⟨#[]⟩ x)).length = k + 1) := by
                        show _ = _
                        rw [Items.app_length, hlen.out]; rfl
                      clear hI6 hgrow hR6 hm6 hg6 hlA HLW hI hlen HB
                      go_wp2_with fail
                      go_roundw
                      case rel => exact ⟨en, k + 1, _, rfl, by go_num, by omega, by omega, by omega, HL6, HI6, HB6, HRD⟩
                      case measure => simp [intOf] <;> omega
        · exact absurd trivial htriv
      · have q0 : decide ((i : Int) < (s.size : Int)) = false := by simp; omega
        have HE : Hid (R = .ok acc (s.data.toList.drop i)) := by
          show _ = _
          rw [hrd.out, List.drop_of_length_le (by rw [Array.length_toList]; show s.size ≤ i; omega), ra_nil]
          simp only [Rd.app, Items.app_nil]
        have hkm1 : decide ((k : Int) < (-1 : Int)) = false := decide_eq_false (by omega)
        clear hrd
        go_wp2_with fail
        go_ret3
        exact ⟨hB.out, Or.inr ⟨acc, _, i, HE.out, hi, rfl, hI.out.lies⟩⟩
set_option maxRecDepth 100000 in
set_option maxHeartbeats 4000000 in
theorem refDecode_any (s : ByteArray) (w : World) (hsz : s.size ≤ 110000) :
    Calls Tryd.prog 26 #[.string s] w (DecOf (K.decode s.data.toList) w) := by
  have hls : s.data.toList.length = s.size := Array.length_toList
  rw [K.decode_eq, hls]
  by_cases hbig : 100000 < s.size
  · have t0 : decide ((100000 : Int) < (s.size : Int)) = true := by simp; omega
    rw [if_pos hbig]
    go_enter Tryd.func26, Tryd.ntmps26
    go_wp2_with fail
    go_ret2
    exact ⟨_, rfl, Or.inl ⟨rfl, rfl⟩, Below.refl _ w⟩
  · have t0 : decide ((100000 : Int) < (s.size : Int)) = false := by simp; omega
    rw [if_neg hbig]
    have cR := readA_any s w hsz
    obtain ⟨R, hR⟩ : ∃ R, ra s.data.toList = R := ⟨_, rfl⟩
    rw [hR] at cR ⊢
    clear hR hls
    go_enter Tryd.func26, Tryd.ntmps26
    go_wp2_with fail
    refine cR.mono ?_
    rintro e w2 ⟨b2, hans⟩
    have B2 := hid b2
    clear cR b2
    rcases hans with ⟨er, hb, rfl⟩ | ⟨x, v, en, hok, hen, rfl, hv⟩
    · have HR := hid hb
      clear hb
      go_wp2_with fail
      go_ret2
      rw [HR.out]
      exact ⟨_, rfl, Or.inl ⟨rfl, rfl⟩, B2.out⟩
    · have HR := hid hok
      have HV := hid hv
      clear hok hv
      go_wp2_with fail
      go_ret2
      rw [HR.out]
      exact ⟨_, rfl, HV.out, B2.out⟩
end Go.Proofs.YtfadnhihcobclaaDoor
