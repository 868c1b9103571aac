/- The walk of the reference's Sorted. -/
import Derived.Test.YtohdifffdgoaaaaDoorVRefC
import Derived.Test.YtohdifffdgoaaaaDoorVSortB
import Derived.Test.YtohdifffdgoaaaaDoorVPut
namespace Go.Proofs.YtohdifffdgoaaaaDoor
open Go.RowKit
open Go.Lib (hid)
open V Srt
namespace V
theorem ref_step {bs es : List Bind} {k j : Nat} {x : Bind} (hx : bs[k]? = some x) (h : Stab Bind.nm (bs.take k) es) (hj : j ≤ es.length) (hR : ∀ r ∈ es.drop j, x.nm < r.nm) (hL : ∀ y, 0 < j → es[j - 1]? = some y → ¬ x.nm < y.nm) : Stab Bind.nm (bs.take (k + 1)) (es.take j ++ [x] ++ es.drop j) := by
  obtain ⟨h1, h2, h3⟩ := h
  have ht : bs.take (k + 1) = bs.take k ++ [x] := by rw [List.take_add_one, hx]; rfl
  have he : es.take j ++ es.drop j = es := List.take_append_drop j es
  rw [ht]
  refine ⟨?_, ?_, ?_⟩
  · simp only [List.length_append, List.length_cons, List.length_nil, List.length_take, List.length_drop] at h1 ⊢
    omega
  · have a1 : StEq Bind.nm (bs.take k ++ [x]) (es ++ [x]) := h2.append (StEq.refl _)
    have a2 : StEq Bind.nm (es.drop j ++ [x]) ([x] ++ es.drop j) := StEq.about (fun a ha b hb e => by
      rw [List.mem_singleton] at hb
      subst hb
      have := hR a ha
      rw [e] at this
      exact List.lt_irrefl _ this)
    have a3 := (StEq.refl (k := Bind.nm) (es.take j)).append a2
    rw [← List.append_assoc, he] at a3
    have a4 := a1.trans a3
    rw [List.append_assoc]
    exact a4
  · have h3' := h3
    rw [← he] at h3'
    have := insert_sorted (k := Bind.nm) (L := es.take j) (R := es.drop j) (x := x) h3' hR (fun y hy => ?_)
    · simpa using this
    · by_cases j0 : 0 < j
      · have hj1 : j - 1 < es.length := by omega
        have e1 : es.take j = es.take (j - 1) ++ [es[j - 1]] := by
          have := List.take_succ_eq_append_getElem hj1
          rw [show j - 1 + 1 = j by omega] at this
          exact this
        have hp : (es.take j).Pairwise (Le Bind.nm) := (List.pairwise_append.1 h3').1
        rw [e1] at hp hy
        exact last_above hp (hL _ j0 (List.getElem?_eq_getElem hj1)) y hy
      · have : j = 0 := by omega
        subst this
        simp at hy
end V
theorem BIn_take {w : World} {es : List Bind} {g m cap j : Nat} (h : BIn w es (.slice (some ⟨g, 0, none⟩) m cap)) (hm : es.length = m) (hj : j ≤ m) : BIn w (es.take j) (.slice (some ⟨g, 0, none⟩) j cap) := by
  by_cases j0 : j = 0
  · subst j0
    exact Or.inl ⟨rfl, _, cap, rfl, fun h => by cases h⟩
  · rcases h with ⟨rfl, _⟩ | ⟨h0, b, o, c, h1, h2, h3⟩
    · simp at hm; omega
    · simp only [Value.slice.injEq, Option.some.injEq, Addr.mk.injEq, and_true] at h1
      obtain ⟨⟨rfl, rfl⟩, h4, rfl⟩ := h1
      have hl : (es.take j).length = j := by rw [List.length_take]; omega
      refine Or.inr ⟨by omega, g, 0, cap, by rw [hl], by omega, fun i u hi => h3 i u ?_⟩
      rw [← List.take_append_drop j es, rowB_append, List.getElem?_append_left]
      · exact hi
      · exact (List.getElem?_eq_some_iff.1 hi).1
theorem BIn_drop {w : World} {es : List Bind} {g m cap j : Nat} (h : BIn w es (.slice (some ⟨g, 0, none⟩) m cap)) (hm : es.length = m) (hj : j < m) : BIn w (es.drop j) (.slice (some ⟨g, j * 5, none⟩) (m - j) (cap - j)) := by
  rcases h with ⟨rfl, _⟩ | ⟨h0, b, o, c, h1, h2, h3⟩
  · simp at hm; omega
  · simp only [Value.slice.injEq, Option.some.injEq, Addr.mk.injEq, and_true] at h1
    obtain ⟨⟨rfl, rfl⟩, h4, rfl⟩ := h1
    have hl : (es.drop j).length = m - j := by rw [List.length_drop]; omega
    refine Or.inr ⟨by omega, g, j * 5, cap - j, by rw [hl], by omega, fun i u hi => ?_⟩
    have := h3 (j * 5 + i) u (by
      rw [← List.take_append_drop j es, rowB_append, List.getElem?_append_right]
      · rw [rowB_length, List.length_take, show min j es.length = j by omega, show j * 5 + i - j * 5 = i by omega]; exact hi
      · rw [rowB_length, List.length_take, show min j es.length = j by omega]; omega)
    rw [Nat.zero_add] at this
    exact this
theorem BIn_none (w : World) (a : Addr) (c : Nat) : BIn w [] (.slice (some a) 0 c) := Or.inl ⟨rfl, _, c, rfl, fun h => by cases h⟩
set_option maxRecDepth 100000 in
set_option maxHeartbeats 3000000 in
theorem refSorted_any (bs : List Bind) (sv : Value) (w : World) (hin : BIn w bs sv) (hlen : bs.length * 56 ≤ 140737488355328) :
    Calls Tryd.prog 31 #[sv] w (SortOf bs w) := by
  obtain ⟨n, hn⟩ : ∃ n, bs.length = n := ⟨_, rfl⟩
  obtain ⟨xa, ca, hsv⟩ := hin.shape
  rw [hn] at hsv hlen
  subst hsv
  have HIN := hid hin
  have HN := hid hn
  clear hin hn
  go_enter Tryd.func31, Tryd.ntmps31
  go_wp2_with fail
  go_loopw [3, 4] (fun vo vi wr => ∃ (k : Nat) (es : List Bind), k ≤ n ∧ vi = .int .i64 k ∧ (k = 0 → vo = .slice none 0 0) ∧ Hid (Stab Bind.nm (bs.take k) es ∧ BOwn w.heap.size es vo wr ∧ Below w.heap.size w wr)) (fun _ vi _ => n - (intOf vi).toNat)
  case atStart => exact ⟨0, [], by omega, rfl, fun _ => rfl, hid ⟨⟨rfl, StEq.refl _, List.Pairwise.nil⟩, BOwn.nil _ _, Below.refl _ _⟩⟩
  case round =>
    obtain ⟨k, es, hk, rfl, hv0, hS⟩ := hrel
    rename World => wo
    have HV0 := hid hv0
    clear hv0
    by_cases hlt : k < n
    · have hl0 : decide ((k : Int) < (n : Int)) = true := by simp; omega
      have hkp : k < bs.length := by have := HN.out; omega
      obtain ⟨b, o, _, hsv, hbl, c0, c1, c2, c3, c4⟩ := HIN.out.cells hkp
      rw [HN.out] at hsv
      simp only [Value.slice.injEq, true_and] at hsv
      obtain ⟨rfl, rfl⟩ := hsv
      have hk0 : (0 : Int) ≤ (k : Int) := by omega
      have hk1 : (k : Int) < (n : Int) := by omega
      obtain ⟨p, hp⟩ : ∃ p, bs[k] = p := ⟨_, rfl⟩
      have hg : bs[k]? = some p := by rw [List.getElem?_eq_getElem hkp, hp]
      rw [hp] at c0 c1 c2 c3 c4
      obtain ⟨x, kk, nn, bb, ss⟩ := p
      simp only at c0 c1 c2 c3 c4
      have HG := hid hg
      have CW := hid (And.intro c0 (And.intro c1 (And.intro c2 (And.intro c3 c4))))
      clear hp hg hkp c0 c1 c2 c3 c4
      have hlk : Hid (es.length = k) := by
        show _ = _
        rw [hS.out.1.1, List.length_take]
        have := HN.out
        omega
      obtain ⟨m, hm⟩ : ∃ m, es.length = m := ⟨_, rfl⟩
      obtain rfl : m = k := hm.symm.trans hlk.out
      have HM := hid hm
      clear hm hlk
      rcases Nat.eq_zero_or_pos m with rfl | hpos
      · obtain rfl : es = [] := List.eq_nil_of_length_eq_zero HM.out
        have hvo := HV0.out rfl
        subst hvo
        clear HV0
        have HW0 := hid hS.out.2.2
        have HST : Hid (Stab Bind.nm (bs.take (0 + 1)) ([] ++ [⟨x, ⟨kk, nn, bb, ss⟩⟩] ++ [])) := ref_step (j := 0) HG.out hS.out.1 (Nat.le_refl _) (fun r hr => by simp at hr) (fun y hy => absurd hy (Nat.lt_irrefl _))
        clear hS
        go_wp2_with fail
        go_loopw [5] (fun vj wz => vj = .int .i64 0 ∧ Hid (Below wo.heap.size wo wz)) (fun vj _ => 0)
        case atStart => exact ⟨rfl, hid (Below.refl _ _)⟩
        case round =>
          obtain ⟨rfl, hJ⟩ := hrel
          have d1 : decide ((0 : Int) < 0) = false := by simp
          go_upto_region 6 with fail
          go_region
          have BX := hid hJ.out.drew
          clear hJ
          go_upto_region 9 with fail
          go_wp2_with (at_builtin; refine wpList_app_binds rfl _ _ rfl wo.heap.size [] [] _ _ rfl (BOwn.nil _ _) rfl (Or.inl ⟨rfl, none, 0, rfl, fun _ => rfl⟩) (by simp) BX.out.size ?_)
          intro v1 w1 hown hgrow
          have R1 : Hid (BOwn wo.heap.size [] v1 w1) := by
            show BOwn _ _ _ _
            first | exact hown | (rw [List.nil_append] at hown; exact hown)
          have B1 := hid (BX.out.grown hgrow BX.out.size (fun g hq => by simp [Value.ownBlock] at hq))
          clear hown hgrow BX
          go_upto_region 10 with fail
          have BW1 := hid (HW0.out.trans (B1.out.mono HW0.out.size))
          have x0 := (BW1.out.cell (p := ⟨b, _, none⟩) hbl).trans CW.out.1
          have x1 := (BW1.out.cell (p := ⟨b, _, none⟩) hbl).trans CW.out.2.1
          have x2 := (BW1.out.cell (p := ⟨b, _, none⟩) hbl).trans CW.out.2.2.1
          have x3 := (BW1.out.cell (p := ⟨b, _, none⟩) hbl).trans CW.out.2.2.2.1
          have x4 := (BW1.out.cell (p := ⟨b, _, none⟩) hbl).trans CW.out.2.2.2.2
          simp only [Nat.zero_mul, Nat.add_zero] at x0 x1 x2 x3 x4
          have h6 := B1.out.size
          have hg := heap_alloc_new w1 (.cells #[.string x, .int .u8 kk, .int .i64 nn, .bool bb, .string ss] 43)
          have H1 := hid (BIn_one _ ⟨x, ⟨kk, nn, bb, ss⟩⟩ w1.heap.size hg)
          have R7 := hid (World.ownsRow.alloc R1.out (.cells #[.string x, .int .u8 kk, .int .i64 nn, .bool bb, .string ss] 43))
          clear hg
          go_wp2_with (at_builtin; refine wpList_app_binds rfl _ _ rfl wo.heap.size [] [⟨x, ⟨kk, nn, bb, ss⟩⟩] _ _ rfl R7.out rfl H1.out (by simp) (by simp; omega) ?_)
          intro v2 w2 hown hgrow
          have R2 : Hid (BOwn wo.heap.size [⟨x, ⟨kk, nn, bb, ss⟩⟩] v2 w2) := by
            show BOwn _ _ _ _
            exact hown
          have B2 := hid ((B1.out.alloc h6 (.cells #[.string x, .int .u8 kk, .int .i64 nn, .bool bb, .string ss] 43)).grown hgrow (by simp; omega) (fun g hq => (World.ownsRow.lt R1.out g hq).1))
          clear hown hgrow H1 R7 x0 x1 x2 x3 x4 B1 R1
          go_upto_region 11 with fail
          go_wp2_with (at_builtin; refine wpList_app_binds rfl _ _ rfl wo.heap.size [⟨x, ⟨kk, nn, bb, ss⟩⟩] [] _ _ rfl R2.out rfl (Or.inl ⟨rfl, none, 0, rfl, fun _ => rfl⟩) (by simp) B2.out.size ?_)
          intro v3 w3 hown hgrow
          have R3 : Hid (BOwn wo.heap.size ([] ++ [⟨x, ⟨kk, nn, bb, ss⟩⟩] ++ []) v3 w3) := by
            show BOwn _ _ _ _
            first | exact hown | (simp only [List.nil_append, List.append_nil] at hown ⊢; exact hown)
          have B3 := hid (B2.out.grown hgrow B2.out.size (fun g hq => (World.ownsRow.lt R2.out g hq).1))
          clear hown hgrow R2
          go_wp2_with fail
          go_roundw
          case rel => exact ⟨0 + 1, _, by omega, by go_num, fun h => absurd h (by omega), hid ⟨HST.out, BOwn.mono R3.out HW0.out.size, HW0.out.trans (B3.out.mono HW0.out.size)⟩⟩
          case measure => simp [intOf]; omega
      · rcases hS.out.2.1.form with ⟨_, he⟩ | ⟨g, cap, hvo, hcap, _⟩
        · rw [he] at HM
          exact absurd HM.out (by simp; omega)
        · rw [HM.out] at hvo hcap
          subst hvo
          clear HV0
          go_wp2_with fail
          go_loopw [5] (fun vj wz => ∃ (j : Nat), j ≤ m ∧ vj = .int .i64 j ∧ Hid (Below wo.heap.size wo wz ∧ ∀ r ∈ es.drop j, (Bind.nm ⟨x, ⟨kk, nn, bb, ss⟩⟩) < r.nm)) (fun vj _ => (intOf vj).toNat)
          case atStart => exact ⟨m, Nat.le_refl _, rfl, hid ⟨Below.refl _ _, fun r hr => by rw [List.drop_eq_nil_of_le (by have := HM.out; omega)] at hr; simp at hr⟩⟩
          case round =>
            obtain ⟨j, hj, rfl, hJ⟩ := hrel
            have HW0 := hid hS.out.2.2
            have BR := hid hJ.out.1
            have HO := hid (hS.out.2.1.below hJ.out.1)
            have BWR := hid (HW0.out.trans (BR.out.mono HW0.out.size))
            have x0 := (BWR.out.cell (p := ⟨b, _, none⟩) hbl).trans CW.out.1
            obtain ⟨z, hz⟩ : ∃ z : Bool, (z = true → 0 < j ∧ ∀ y, es[j - 1]? = some y → Bind.nm ⟨x, ⟨kk, nn, bb, ss⟩⟩ < y.nm) ∧ (z = false → ∀ y, 0 < j → es[j - 1]? = some y → ¬ Bind.nm ⟨x, ⟨kk, nn, bb, ss⟩⟩ < y.nm) := by
              by_cases h : 0 < j ∧ ∀ y, es[j - 1]? = some y → Bind.nm ⟨x, ⟨kk, nn, bb, ss⟩⟩ < y.nm
              · exact ⟨true, fun _ => h, fun h => by cases h⟩
              · refine ⟨false, fun h => (by cases h), fun _ y hj hy hl => h ⟨hj, fun y' hy' => ?_⟩⟩
                rw [hy] at hy'
                obtain rfl := Option.some.inj hy'
                exact hl
            have HZ := hid hz
            clear hz
            go_upto_region 6 with fail
            go_cut [30] (fun s wc => s = .bool z ∧ Hid (Below wr.heap.size wr wc))
            case first =>
              by_cases j0 : 0 < j
              · obtain ⟨q, hq⟩ : ∃ q, j - 1 = q := ⟨_, rfl⟩
                have hqm : q < m := by omega
                have e1 : (j : Int) - 1 = (q : Int) := by omega
                have e2 : IntKind.i64.wrap (q : Int) = (q : Int) := wrapN q (by omega)
                have HQ := hid hq
                clear hq
                obtain ⟨⟨yn, ⟨yk, yi, yb, ys⟩⟩, hy⟩ : ∃ y, es[q]? = some y := ⟨_, List.getElem?_eq_getElem (by rw [HM.out]; exact hqm)⟩
                obtain ⟨a0, -⟩ := bown_cells HO.out HM.out hqm hy
                have HYY := hid hy
                clear hy
                have d1 : decide ((0 : Int) < (j : Int)) = true := by simp; omega
                have d2 : decide (0 < j) = true := decide_eq_true j0
                have Q0 : (0 : Int) ≤ (q : Int) := by omega
                have Q1 : (q : Int) < (m : Int) := by omega
                by_cases hl : Bind.nm ⟨x, ⟨kk, nn, bb, ss⟩⟩ < Bind.nm ⟨yn, ⟨yk, yi, yb, ys⟩⟩
                · have f1 : Op.bytesLess yn.toList x.toList = false := by rw [bytesLess_eq, Lib.toList_data, Lib.toList_data]; exact decide_eq_false (fun h => List.lt_irrefl _ (List.lt_trans hl h))
                  have f2 : (yn.toList == x.toList) = false := bytes_ne (fun h => by unfold Bind.nm at hl; rw [h] at hl; exact List.lt_irrefl _ hl)
                  have hzt : true = z := by
                    cases z with
                    | true => rfl
                    | false => exact absurd hl (HZ.out.2 rfl _ j0 (by rw [HQ.out]; exact HYY.out))
                  have HZT := hid hzt
                  clear hl hzt
                  go_region
                  go_wp2_with fail
                  go_meet
                  exact ⟨congrArg Value.bool HZT.out, hid ((Below.refl _ _).drew)⟩
                · have hzt : false = z := by
                    cases z with
                    | false => rfl
                    | true => exact absurd ((HZ.out.1 rfl).2 _ (by rw [HQ.out]; exact HYY.out)) hl
                  have HZT := hid hzt
                  clear hzt
                  by_cases hl2 : Bind.nm ⟨yn, ⟨yk, yi, yb, ys⟩⟩ < Bind.nm ⟨x, ⟨kk, nn, bb, ss⟩⟩
                  · have f1 : Op.bytesLess yn.toList x.toList = true := by rw [bytesLess_eq, Lib.toList_data, Lib.toList_data]; exact decide_eq_true hl2
                    clear hl hl2
                    go_region
                    go_wp2_with fail
                    go_meet
                    exact ⟨congrArg Value.bool HZT.out, hid ((Below.refl _ _).drew)⟩
                  · have f1 : Op.bytesLess yn.toList x.toList = false := by rw [bytesLess_eq, Lib.toList_data, Lib.toList_data]; exact decide_eq_false hl2
                    have f2 : (yn.toList == x.toList) = true := bytes_yes (Srt.Le.eq (k := Bind.nm) (a := (⟨yn, ⟨yk, yi, yb, ys⟩⟩ : Bind)) (b := ⟨x, ⟨kk, nn, bb, ss⟩⟩) hl hl2)
                    clear hl hl2
                    go_region
                    go_wp2_with fail
                    go_meet
                    exact ⟨congrArg Value.bool HZT.out, hid ((Below.refl _ _).drew)⟩
              · have d1 : decide ((0 : Int) < (j : Int)) = false := by simp; omega
                have d2 : decide (0 < j) = false := decide_eq_false j0
                have hzt : false = z := by
                  cases z with
                  | false => rfl
                  | true => exact absurd (HZ.out.1 rfl).1 j0
                have HZT := hid hzt
                clear hzt
                go_region
                go_wp2_with fail
                go_meet
                exact ⟨congrArg Value.bool HZT.out, hid ((Below.refl _ _).drew)⟩
            case rest =>
              rename World => wx
              obtain ⟨rfl, hX⟩ := hcut
              have BX := hid (BR.out.trans (hX.out.mono BR.out.size))
              clear hX HO BWR x0 BR
              cases z with
              | true =>
                have j0 := (HZ.out.1 rfl).1
                obtain ⟨q, hq⟩ : ∃ q, j - 1 = q := ⟨_, rfl⟩
                have e1 : (j : Int) - 1 = (q : Int) := by omega
                have e2 : IntKind.i64.wrap (q : Int) = (q : Int) := wrapN q (by omega)
                have HJJ : Hid (∀ r ∈ es.drop q, Bind.nm ⟨x, ⟨kk, nn, bb, ss⟩⟩ < r.nm) := by
                  intro r hr
                  have hql : q < es.length := by have := HM.out; omega
                  rw [List.drop_eq_getElem_cons hql] at hr
                  rcases List.mem_cons.1 hr with rfl | hr
                  · exact (HZ.out.1 rfl).2 _ (by rw [hq]; exact List.getElem?_eq_getElem hql)
                  · exact hJ.out.2 r (by rw [show j = q + 1 by omega]; exact hr)
                have hqj : q < j := by omega
                clear hq hJ HZ
                go_wp2_with fail
                go_roundw
                case rel => exact ⟨q, by omega, rfl, hid ⟨BX.out, HJJ.out⟩⟩
                case measure => simp [intOf]; omega
              | false =>
                have HST : Hid (Stab Bind.nm (bs.take (m + 1)) (es.take j ++ [⟨x, ⟨kk, nn, bb, ss⟩⟩] ++ es.drop j)) := ref_step HG.out hS.out.1 (by rw [HM.out]; exact hj) hJ.out.2 (fun y hy => HZ.out.2 rfl y hy)
                have HIO := hid hS.out.2.1.is
                have hj0 : (0 : Int) ≤ (j : Int) := by omega
                have hjc : (j : Int) ≤ (cap : Int) := by omega
                clear hJ HZ hS
                have HT := hid (BIn_take (HIO.out.below BX.out) HM.out hj)
                go_upto_region 9 with fail
                go_wp2_with (at_builtin; refine wpList_app_binds rfl _ _ rfl wo.heap.size [] (es.take j) _ _ rfl (BOwn.nil _ _) rfl HT.out (by have := HM.out; simp; omega) BX.out.size ?_)
                intro v1 w1 hown hgrow
                have R1 : Hid (BOwn wo.heap.size (es.take j) v1 w1) := by
                  show BOwn _ _ _ _
                  first | exact hown | (rw [List.nil_append] at hown; exact hown)
                have B1 := hid (BX.out.grown hgrow BX.out.size (fun g hq => by simp [Value.ownBlock] at hq))
                clear hown hgrow HT
                go_upto_region 10 with fail
                have BW1 := hid (HW0.out.trans (B1.out.mono HW0.out.size))
                have x0 := (BW1.out.cell (p := ⟨b, _, none⟩) hbl).trans CW.out.1
                have x1 := (BW1.out.cell (p := ⟨b, _, none⟩) hbl).trans CW.out.2.1
                have x2 := (BW1.out.cell (p := ⟨b, _, none⟩) hbl).trans CW.out.2.2.1
                have x3 := (BW1.out.cell (p := ⟨b, _, none⟩) hbl).trans CW.out.2.2.2.1
                have x4 := (BW1.out.cell (p := ⟨b, _, none⟩) hbl).trans CW.out.2.2.2.2
                have h6 := B1.out.size
                have hg := heap_alloc_new w1 (.cells #[.string x, .int .u8 kk, .int .i64 nn, .bool bb, .string ss] 43)
                have H1 := hid (BIn_one _ ⟨x, ⟨kk, nn, bb, ss⟩⟩ w1.heap.size hg)
                have R7 := hid (World.ownsRow.alloc R1.out (.cells #[.string x, .int .u8 kk, .int .i64 nn, .bool bb, .string ss] 43))
                clear hg
                go_wp2_with (at_builtin; refine wpList_app_binds rfl _ _ rfl wo.heap.size (es.take j) [⟨x, ⟨kk, nn, bb, ss⟩⟩] _ _ rfl R7.out rfl H1.out (by have := HM.out; simp; omega) (by simp; omega) ?_)
                intro v2 w2 hown hgrow
                have R2 : Hid (BOwn wo.heap.size (es.take j ++ [⟨x, ⟨kk, nn, bb, ss⟩⟩]) v2 w2) := by
                  show BOwn _ _ _ _
                  exact hown
                have B2 := hid ((B1.out.alloc h6 (.cells #[.string x, .int .u8 kk, .int .i64 nn, .bool bb, .string ss] 43)).grown hgrow (by simp; omega) (fun g hq => (World.ownsRow.lt R1.out g hq).1))
                clear hown hgrow H1 R7 x0 x1 x2 x3 x4 B1 R1
                go_upto_region 11 with fail
                have HIO2 := hid (HIO.out.below B2.out)
                by_cases hjm : j < m
                · have hjm' : (j : Int) < (m : Int) := by omega
                  have hjc2 : ¬ cap = j := by omega
                  have HD := hid (BIn_drop HIO2.out HM.out hjm)
                  go_wp2_with (at_builtin; refine wpList_app_binds rfl _ _ rfl wo.heap.size (es.take j ++ [⟨x, ⟨kk, nn, bb, ss⟩⟩]) (es.drop j) _ _ rfl R2.out rfl HD.out (by have := HM.out; simp; omega) B2.out.size ?_)
                  intro v3 w3 hown hgrow
                  have R3 : Hid (BOwn wo.heap.size (es.take j ++ [⟨x, ⟨kk, nn, bb, ss⟩⟩] ++ es.drop j) v3 w3) := by
                    show BOwn _ _ _ _
                    first | exact hown | (rw [List.append_assoc]; exact hown) | (rw [hdr, List.append_nil]; exact hown)
                  have B3 := hid (B2.out.grown hgrow B2.out.size (fun g hq => (World.ownsRow.lt R2.out g hq).1))
                  clear hown hgrow HD R2
                  go_wp2_with fail
                  go_roundw
                  case rel => exact ⟨m + 1, _, by omega, by go_num, fun h => absurd h (by omega), hid ⟨HST.out, BOwn.mono R3.out HW0.out.size, HW0.out.trans (B3.out.mono HW0.out.size)⟩⟩
                  case measure => simp [intOf]; omega
                · obtain rfl : j = m := by omega
                  by_cases hcm : cap = j
                  · subst hcm
                    have hdr : es.drop cap = [] := List.drop_eq_nil_of_le (by rw [HM.out]; exact Nat.le_refl _)
                    have HD := hid (show BIn w2 (es.drop cap) (.slice (some ⟨g, 0, none⟩) 0 0) by rw [hdr]; exact BIn_none _ _ _)
                    go_wp2_with (at_builtin; refine wpList_app_binds rfl _ _ rfl wo.heap.size (es.take cap ++ [⟨x, ⟨kk, nn, bb, ss⟩⟩]) (es.drop cap) _ _ rfl R2.out rfl HD.out (by have := HM.out; simp; omega) B2.out.size ?_)
                    intro v3 w3 hown hgrow
                    have R3 : Hid (BOwn wo.heap.size (es.take cap ++ [⟨x, ⟨kk, nn, bb, ss⟩⟩] ++ es.drop cap) v3 w3) := by
                      show BOwn _ _ _ _
                      first | exact hown | (rw [List.append_assoc]; exact hown) | (rw [hdr, List.append_nil]; exact hown)
                    have B3 := hid (B2.out.grown hgrow B2.out.size (fun g hq => (World.ownsRow.lt R2.out g hq).1))
                    clear hown hgrow HD R2
                    go_wp2_with fail
                    go_roundw
                    case rel => exact ⟨cap + 1, _, by omega, by go_num, fun h => absurd h (by omega), hid ⟨HST.out, BOwn.mono R3.out HW0.out.size, HW0.out.trans (B3.out.mono HW0.out.size)⟩⟩
                    case measure => simp [intOf]; omega
                  · have hdr : es.drop j = [] := List.drop_eq_nil_of_le (by rw [HM.out]; exact Nat.le_refl _)
                    have HD := hid (show BIn w2 (es.drop j) (.slice (some ⟨g, j * 5, none⟩) 0 (cap - j)) by rw [hdr]; exact BIn_none _ _ _)
                    go_wp2_with (at_builtin; refine wpList_app_binds rfl _ _ rfl wo.heap.size (es.take j ++ [⟨x, ⟨kk, nn, bb, ss⟩⟩]) (es.drop j) _ _ rfl R2.out rfl HD.out (by have := HM.out; simp; omega) B2.out.size ?_)
                    intro v3 w3 hown hgrow
                    have R3 : Hid (BOwn wo.heap.size (es.take j ++ [⟨x, ⟨kk, nn, bb, ss⟩⟩] ++ es.drop j) v3 w3) := by
                      show BOwn _ _ _ _
                      first | exact hown | (rw [List.append_assoc]; exact hown) | (rw [hdr, List.append_nil]; exact hown)
                    have B3 := hid (B2.out.grown hgrow B2.out.size (fun g hq => (World.ownsRow.lt R2.out g hq).1))
                    clear hown hgrow HD R2
                    go_wp2_with fail
                    go_roundw
                    case rel => exact ⟨j + 1, _, by omega, by go_num, fun h => absurd h (by omega), hid ⟨HST.out, BOwn.mono R3.out HW0.out.size, HW0.out.trans (B3.out.mono HW0.out.size)⟩⟩
                    case measure => simp [intOf]; omega
    · have hl0 : decide ((k : Int) < (n : Int)) = false := by simp; omega
      have hs := hS.out
      rw [List.take_of_length_le (by have := HN.out; omega)] at hs
      have HS := hid hs
      clear hs hS
      go_wp2_with fail
      go_ret
      exact ⟨_, es, rfl, HS.out.1, HS.out.2.1, HS.out.2.2⟩
end Go.Proofs.YtohdifffdgoaaaaDoor
