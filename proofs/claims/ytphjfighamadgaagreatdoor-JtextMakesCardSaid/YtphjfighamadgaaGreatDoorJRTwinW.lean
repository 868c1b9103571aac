/- The reference's Twin: the walk. -/
import Derived.Test.YtphjfighamadgaaGreatDoorJRTwin
namespace Go.Proofs.YtphjfighamadgaaGreatDoor
open Go.RowKit
open Go.Lib (hid)
set_option maxRecDepth 100000 in
set_option maxHeartbeats 2000000 in
theorem rtwin_step (x : J.V) (hall : x.l.All RTwinC) : RTwinC x := by
  obtain ⟨k, b, n, s, l, ns⟩ := x
  intro hsm w P cs hhas hPP
  obtain ⟨hs1, hs2, hs3⟩ := hsm
  obtain ⟨lv, nv, rfl, hl, hn⟩ := hhas
  have hl : l.In w P lv := hl
  have hn : J.SIn w P ns nv := hn
  obtain ⟨la, lc, rfl⟩ := hl.shape
  obtain ⟨g, o, hgo⟩ := in_addr hl
  simp only at hs1 hs2 hs3
  obtain ⟨j0, hj, hy0, hy1, hy2⟩ := info_parts infoStr2
  obtain ⟨len, hle⟩ : ∃ len, l.length = len := ⟨_, rfl⟩
  obtain ⟨nn, hnn⟩ : ∃ nn, ns.length = nn := ⟨_, rfl⟩
  have hcase : (nv = .slice none 0 0 ∧ ns = []) ∨ ∃ ad c, nv = .slice (some ad) nn c ∧ ∀ j u, (ns.map Value.string)[j]? = some u → w.cell? (ad.add j) = some u := by
    rcases hn with ⟨h, a, c, h2, h3⟩ | ⟨h0, g, o, c', h1, h2, h3, h4⟩
    · subst h
      cases a with
      | none => left; rw [h2, h3 rfl]; exact ⟨rfl, rfl⟩
      | some ad => right; exact ⟨ad, c, by rw [h2, ← hnn]; rfl, fun j u hj => by simp at hj⟩
    · right
      refine ⟨⟨g, o, none⟩, c', by rw [h1, hnn], fun j u hj => ?_⟩
      rw [List.getElem?_map] at hj
      cases hx : ns[j]? with
      | none => rw [hx] at hj; cases hj
      | some y =>
        rw [hx] at hj
        cases hj
        have e : (⟨g, o, none⟩ : Addr).add j = ⟨g, o + j, none⟩ := by cases j <;> simp [Addr.add]
        rw [e]; exact h4 j y hx
  obtain ⟨w1, hw1⟩ : ∃ w1, (w.alloc (.cells #[.int .u8 k, .bool b, .int .i64 n, .string s, .slice la len lc, nv] 25)).alloc (.cells #[.int .u8 0, .bool false, .int .i64 0, .string ⟨#[]⟩, .slice none 0 0, .slice none 0 0] 25) = w1 := ⟨_, rfl⟩
  have hb1 : Below w.heap.size w w1 := by rw [← hw1]; exact ((Below.refl _ w).alloc (Nat.le_refl _) _).alloc (by simp) _
  have hv1 : w1.heap[w.heap.size]? = some (.cells #[.int .u8 k, .bool b, .int .i64 n, .string s, .slice la len lc, nv] 25 (0, 0)) := by rw [← hw1, Lib.alloc_old _ _ _ (by simp)]; exact heap_alloc_new w _
  have hz1 : w1.heap[w.heap.size + 1]? = some (vRow 0 (.slice none 0 0) (.slice none 0 0)) := by
    rw [← hw1]
    have := heap_alloc_new (w.alloc (.cells #[.int .u8 k, .bool b, .int .i64 n, .string s, .slice la len lc, nv] 25)) (.cells #[.int .u8 0, .bool false, .int .i64 0, .string ⟨#[]⟩, .slice none 0 0, .slice none 0 0] 25)
    rw [show (w.alloc (.cells #[.int .u8 k, .bool b, .int .i64 n, .string s, .slice la len lc, nv] 25)).heap.size = w.heap.size + 1 by simp] at this
    exact this
  have hsz1 : w1.heap.size = w.heap.size + 2 := by rw [← hw1]; simp
  have HW1 := hid hw1
  have HB1 := hid hb1
  have HZ1 := hid hz1
  have HS1 := hid hsz1
  have HPP := hid hPP
  obtain ⟨i0, hq0, hq1, hq2, hq3⟩ := info_parts infoJSON2
  have HQ := hid (show _ ∧ _ ∧ _ ∧ _ from ⟨hq0, hq1, hq2, hq3⟩)
  clear hq0 hq1 hq2 hq3
  have HGO := hid hgo
  have HALL := hid hall
  have HSM := hid hs3
  have HLE := hid hle
  rcases hcase with ⟨rfl, rfl⟩ | ⟨ad, nc', rfl, hcell⟩
  · obtain ⟨x0, x1, x2, x3, x4, x5⟩ := x6_of hv1
    have hf5 := Lib.frozen_of_heap hv1 5
    have hv2 : (w1.alloc (.cells #[] 9)).heap[w.heap.size]? = some (.cells #[.int .u8 k, .bool b, .int .i64 n, .string s, .slice la len lc, .slice none 0 0] 25 (0, 0)) := by rw [Lib.alloc_old _ _ _ (Go.lt_of_block hv1)]; exact hv1
    clear x0 x1 x2 x3 x4 x5
    obtain ⟨x0, x1, x2, x3, x4, x5⟩ := x6_of hv2
    have hf2 := Lib.frozen_of_heap hv2 5
    have HV2 := hid hv2
    have HZ2 : Hid ((w1.alloc (.cells #[] 9)).heap[w.heap.size + 1]? = some (vRow 0 (.slice none 0 0) (.slice none 0 0))) := by show _ = _; rw [Lib.alloc_old _ _ _ (Go.lt_of_block hz1)]; exact hz1
    have HB2 : Hid (Below w.heap.size w (w1.alloc (.cells #[] 9))) := hb1.alloc hb1.size _
    have HO : Hid (World.ownsRow (w1.alloc (.cells #[] 9)) (w.heap.size + 2) 9 1 (.slice (some ⟨w1.heap.size, 0, none⟩) 0 0) 0 []) :=
      ⟨rfl, Or.inr ⟨w1.heap.size, 0, #[], rfl, by omega, heap_alloc_new w1 _, Nat.le_refl _, by decide, rfl, rfl⟩⟩
    clear hw1 hb1 hv1 hz1 hsz1 hv2
    rw [hle]
    go_enter Tryz.func16, Tryz.ntmps16
    go_upto_region 1 with fail
    rw [HW1.out]
    clear HW1
    go_upto_region 2 with fail
    have hsz3 : w.heap.size + 2 ≤ (w1.alloc (.cells #[] 9)).heap.size := by have := (HB2.out).size; have := Go.lt_of_block HZ2.out; omega
    have HT0 : Hid (RT w P (w1.alloc (.cells #[] 9)).heap.size (.cells #[.int .u8 k, .bool b, .int .i64 n, .string s, .slice la len lc, .slice (some ⟨w1.heap.size, 0, none⟩) 0 0] 25 (0, 0)) (.slice (some ⟨w1.heap.size, 0, none⟩) 0 0) ([] : List ByteArray) .nil l g (o + 0 * 6) (.slice none 0 0) ((w1.alloc (.cells #[] 9)).setCell ⟨w.heap.size, 5, none⟩ (.slice (some ⟨w1.heap.size, 0, none⟩) 0 0))) := by
      show RT _ _ _ _ _ _ _ _ _ _ _ _
      rw [Nat.zero_mul, Nat.add_zero]
      exact RT.start HV2.out HZ2.out HO.out (HB2.out) hsz3 (fun hne => (HGO.out hne).2.2) HPP.out
    obtain ⟨B, hB⟩ : ∃ B, (w1.alloc (.cells #[] 9)).heap.size = B := ⟨_, rfl⟩
    rw [hB] at HT0
    obtain ⟨w4, hw4⟩ : ∃ w4, (w1.alloc (.cells #[] 9)).setCell ⟨w.heap.size, 5, none⟩ (.slice (some ⟨w1.heap.size, 0, none⟩) 0 0) = w4 := ⟨_, rfl⟩
    rw [hw4] at HT0 ⊢
    clear hw4 hB hsz3 x0 x1 x2 x3 x4 x5
    go_upto_region 4 with fail
    go_loopw [3, 4] (fun vl vi wr => ∃ (i : Nat) (lv : Value), i ≤ len ∧ vi = .int .i64 i ∧ vl = lv ∧ ∃ (t1 t2 : J.T), Hid (t1.app t2 = l ∧ t1.length = i) ∧ Hid (RT w P B (.cells #[.int .u8 k, .bool b, .int .i64 n, .string s, .slice la len lc, .slice (some ⟨w1.heap.size, 0, none⟩) 0 0] 25 (0, 0)) (.slice (some ⟨w1.heap.size, 0, none⟩) 0 0) ([] : List ByteArray) t1 t2 g (o + i * 6) lv wr)) (fun _ vi _ => len - (intOf vi).toNat)
    case atStart => exact ⟨0, _, Nat.zero_le _, rfl, rfl, .nil, l, hid ⟨rfl, rfl⟩, HT0⟩
    case round =>
      obtain ⟨i, lv, hi, rfl, rfl, t1, t2, HA, HI⟩ := hrel
      clear HT0
      obtain ⟨x0, x1, x2, x3, x4, x5⟩ := x6_of HI.out.v
      obtain ⟨va', vc', rfl⟩ := HI.out.l.shape
      rw [HA.out.2] at HI ⊢
      by_cases hlt : i < len
      · have d0 : decide ((i : Int) < (len : Int)) = true := decide_eq_true (by omega)
        have d1 : decide (i < len) = true := decide_eq_true (by omega)
        have hlen2 : t1.length + t2.length = len := by rw [← HLE.out, ← HA.out.1, J.T.app_length]
        cases t2 with
        | nil => have := HA.out.2; simp [J.T.length] at hlen2; omega
        | cons k1 b1 v1 s1 l1 ns1 r =>
          obtain ⟨al, cl, an, cn, u0, u1, u2, u3, u4, u5, hh, hr⟩ := (HI.out.c (fun h => by cases h)).head
          have hlne : l ≠ .nil := fun h => by have := HLE.out; rw [h] at this; simp [J.T.length] at this; omega
          obtain ⟨hga, hgc, -⟩ := HGO.out hlne
          rw [HLE.out] at hgc
          subst hga
          have HC := hid (show RTwinC ⟨k1, b1, v1, s1, l1, ns1⟩ from (J.T.All.app (p := RTwinC) t1 (.cons k1 b1 v1 s1 l1 ns1 r) (by rw [HA.out.1]; exact HALL.out)).2.1)
          have HES := hid (show J.V.small ⟨k1, b1, v1, s1, l1, ns1⟩ from (J.T.small_app t1 (.cons k1 b1 v1 s1 l1 ns1 r) (by rw [HA.out.1]; exact HSM.out)).2.1)
          have cT := HC.out HES.out wr P _ hh (fun j hj => Nat.lt_of_lt_of_le (HPP.out j hj) HI.out.b.size)
          have HRE : Hid (RT w P B (.cells #[.int .u8 k, .bool b, .int .i64 n, .string s, .slice (some ⟨g, o, none⟩) len lc, .slice (some ⟨w1.heap.size, 0, none⟩) 0 0] 25 (0, 0)) (.slice (some ⟨w1.heap.size, 0, none⟩) 0 0) ([] : List ByteArray) t1 r g (o + i * 6 + 6) (.slice va' i vc') wr) := ⟨HI.out.v, HI.out.z, HI.out.n, HI.out.nb, HI.out.l, fun _ => hr, HI.out.b, HI.out.lo, HI.out.hi⟩
          have hi0 : (0 : Int) ≤ (i : Int) := by omega
          have hi1 : (i : Int) < (len : Int) := by omega
          clear hh hr hlen2 hlne
          go_upto_region 6 with fail
          go_wp2_with fail
          refine cT.mono ?_
          rintro e w6 ⟨cs, rfl, hh, hb⟩
          obtain ⟨k2, b2, n2, s2, a1, l2, c1, a2, m2, c2, rfl⟩ := Shape.of hh
          obtain ⟨w7, hw7⟩ : ∃ w7, w6.alloc (.cells #[.int .u8 k2, .bool b2, .int .i64 n2, .string s2, .slice a1 l2 c1, .slice a2 m2 c2] 25) = w7 := ⟨_, rfl⟩
          have hb7 : Below w6.heap.size w6 w7 := by rw [← hw7]; exact (Below.refl _ w6).alloc (Nat.le_refl _) _
          have HR6 := (HRE.out.after HPP.out hb)
          have HR7 := hid (HR6.after HPP.out hb7)
          have hll := HRE.out.l.lt
          have HX7 : Hid (J.V.Has w7 (Own w7 B (Value.slice va' i vc').ownBlock) ⟨k1, b1, v1, s1, l1, ns1⟩ [.int .u8 k2, .bool b2, .int .i64 n2, .string s2, .slice a1 l2 c1, .slice a2 m2 c2]) := by
            refine J.V.Has.keep (P := Own w6 wr.heap.size none) ?_ (fun b hb' => hb7.block b hb'.2.1) hh
            rintro b' ⟨h1, h2, _, cs', T, h4⟩
            exact ⟨Nat.le_trans HI.out.hi h1, Nat.lt_of_lt_of_le h2 hb7.size, fun e => by have := (hll _ e).2; omega, cs', T, by rw [hb7.block _ h2]; exact h4⟩
          obtain ⟨cr, hrow, hcells⟩ := HR7.out.l
          rw [HA.out.2] at hrow
          have HROW := hid hrow
          have HCELLS := hid hcells
          have HNEW := hid (World.news_of_block (heap_alloc_new w6 (.cells #[.int .u8 k2, .bool b2, .int .i64 n2, .string s2, .slice a1 l2 c1, .slice a2 m2 c2] 25)))
          rw [hw7] at HNEW
          have HON : Hid (∀ u ∈ ([.int .u8 k2, .bool b2, .int .i64 n2, .string s2, .slice a1 l2 c1, .slice a2 m2 c2] : List Value), u.oneCell' = true) := Shape.one ⟨_, _, _, _, _, _, _, _, _, _, rfl⟩
          have HW7 := hid hw7
          have hB7 : B ≤ w7.heap.size := HR7.out.hi
          clear hh hb hb7 HR6 hll hrow hcells cT u0 u1 u2 u3 u4 u5 x0 x1 x2 x3 x4 x5 hw7
          have HROWL : Hid (World.ownsRow (w6.alloc (.cells #[.int .u8 k2, .bool b2, .int .i64 n2, .string s2, .slice a1 l2 c1, .slice a2 m2 c2] 25)) B 25 6 (.slice va' i vc') i cr) := by show World.ownsRow _ _ _ _ _ _ _; rw [HW7.out]; exact HROW.out
          have HNEWL := hid (World.news_of_block (heap_alloc_new w6 (.cells #[.int .u8 k2, .bool b2, .int .i64 n2, .string s2, .slice a1 l2 c1, .slice a2 m2 c2] 25)))
          have HBL : Hid (B ≤ (w6.alloc (.cells #[.int .u8 k2, .bool b2, .int .i64 n2, .string s2, .slice a1 l2 c1, .slice a2 m2 c2] 25)).heap.size) := by show _ ≤ _; rw [HW7.out]; exact hB7
          have hlen11 : len ≤ 100000000000 := by have := HLE.out; omega
          clear hB7
          go_wp2_with (at_builtin; go_loud (refine wpList_append_lies _ rfl _ _ 22 rfl B 25 i0 _ 6 80 Tryz.underlying22 HQ.out.1 HQ.out.2.1 HQ.out.2.2.1 HQ.out.2.2.2 rfl (by decide) (.slice va' i vc') i cr rfl HROWL.out ⟨w6.heap.size, 0, none⟩ 1 1 [.int .u8 k2, .bool b2, .int .i64 n2, .string s2, .slice a1 l2 c1, .slice a2 m2 c2] rfl rfl HNEWL.out HON.out (by decide) (by unfold maxLen; omega) (by omega) HBL.out _ rfl ?_))
          intro gg cap w8 hown hgrow hat hlt8
          rw [HW7.out] at hgrow
          rw [show w6.heap.size + 1 = w7.heap.size by rw [← HW7.out]; simp] at hat
          have HR8 := hid (RT.more HR7.out HPP.out HX7.out HCELLS.out HA.out.2 hown hgrow hat)
          clear hown hgrow hat hlt8
          go_wp2_with fail
          go_roundw
          case rel =>
            refine ⟨i + 1, _, by omega, by go_num, rfl, t1.snoc ⟨k1, b1, v1, s1, l1, ns1⟩, r, hid ⟨?_, ?_⟩, by rw [show o + (i + 1) * 6 = o + i * 6 + 6 by omega]; exact HR8⟩
            · rw [← HA.out.1]; unfold J.T.snoc; rw [J.T.app_assoc]; rfl
            · rw [J.T.snoc_length, HA.out.2]
          case measure => simp [intOf]; omega
      · have d0 : decide ((i : Int) < (len : Int)) = false := decide_eq_false (by omega)
        have d1 : decide (i < len) = false := decide_eq_false (by omega)
        have ht2 : t2 = .nil := T_nil (by have := HA.out.2; have := HLE.out; rw [← HA.out.1, J.T.app_length] at this; omega)
        subst ht2
        have hl1 : t1 = l := by rw [← HA.out.1, J.T.app_nil]
        have HL1 := hid hl1
        have hil : i = len := by omega
        have hv5 := row_set HI.out.v 4 (.slice va' i vc')
        have hz5 : (wr.setCell ⟨w.heap.size, 4, none⟩ (.slice va' i vc')).heap[w.heap.size + 1]? = some (vRow 0 (.slice none 0 0) (.slice none 0 0)) := by
          rw [(grownBy_set wr w.heap.size 4 (.slice va' i vc')).block _ (Go.lt_of_block HI.out.z) (fun e => by have := Option.some.inj e; omega)]; exact HI.out.z
        have HZ5 := hid hz5
        have hf4 := Lib.frozen_of_heap HI.out.v 4
        obtain ⟨q0, q1, q2, q3, q4, q5⟩ := x6_of hv5
        obtain ⟨v0, v1, v2, v3, v4, v5⟩ := vcells hz5
        obtain ⟨f0, f1, f2, f3, f4, f5⟩ := vfree hz5
        clear hl1 hv5 hz5 hil
        go_wp2_with fail
        exact bodyPost_ret (v := .agg #[.int .u8 k, .bool b, .int .i64 n, .string s, .slice va' i vc', .slice (some ⟨w1.heap.size, 0, none⟩) 0 0]) (results_cell_row rfl _ _ (w.heap.size + 1) 25 _ (0, 0) _ rfl (pt6_row HZ5.out _ _ _ _ _ _) Tryz.underlying25 rfl infoJSON) rfl (RT.done HI.out HL1.out _ _ _ _ _ _)
  · have hcell1 : ∀ j u, (ns.map Value.string)[j]? = some u → (w1.alloc (.cells #[] 9)).cell? (ad.add j) = some u := fun j u hj => by
      have h := hcell j u hj
      rw [(hb1.alloc hb1.size (.cells #[] 9)).cell (p := ad.add j) (Lib.lt_of_cell h)]
      exact h
    have hown : World.ownsRow (w1.alloc (.cells #[] 9)) (w.heap.size + 2) 9 1 (.slice (some ⟨w1.heap.size, 0, none⟩) 0 0) 0 [] :=
      ⟨rfl, Or.inr ⟨w1.heap.size, 0, #[], rfl, by omega, heap_alloc_new w1 _, Nat.le_refl _, by decide, rfl, rfl⟩⟩
    have HO := hid hown
    have HC := hid hcell1
    have hone : ∀ u ∈ ns.map Value.string, u.oneCell' = true := by intro u hu; obtain ⟨y, _, rfl⟩ := List.mem_map.1 hu; rfl
    have HON := hid hone
    have hv2 : (w1.alloc (.cells #[] 9)).heap[w.heap.size]? = some (.cells #[.int .u8 k, .bool b, .int .i64 n, .string s, .slice la len lc, .slice (some ad) nn nc'] 25 (0, 0)) := by rw [Lib.alloc_old _ _ _ (Go.lt_of_block hv1)]; exact hv1
    have hz2 : (w1.alloc (.cells #[] 9)).heap[w.heap.size + 1]? = some (vRow 0 (.slice none 0 0) (.slice none 0 0)) := by rw [Lib.alloc_old _ _ _ (Go.lt_of_block hz1)]; exact hz1
    have hb2 : Below w.heap.size w (w1.alloc (.cells #[] 9)) := hb1.alloc hb1.size _
    have HV2 := hid hv2
    have HZ2 := hid hz2
    have HB2 := hid hb2
    obtain ⟨x0, x1, x2, x3, x4, x5⟩ := x6_of hv2
    have hll : (ns.map Value.string).length = nn * 1 := by rw [List.length_map, hnn]; omega
    have HLL := hid hll
    have hs2' : nn ≤ 100000000000 := by omega
    clear hw1 hb1 hv1 hz1 hsz1 hown hcell hcell1 hone hv2 hz2 hb2 hll
    rw [hle]
    go_enter Tryz.func16, Tryz.ntmps16
    go_upto_region 1 with fail
    rw [HW1.out]
    clear HW1
    go_wp2_with (at_builtin; refine wpList_append_own _ rfl _ _ 23 rfl (w.heap.size + 2) 9 j0 _ 1 16 Tryz.underlying23 hj hy0 hy1 hy2 rfl (by decide) (.slice (some ⟨w1.heap.size, 0, none⟩) 0 0) 0 [] rfl HO.out ad nn nc' (ns.map Value.string) rfl HLL.out HC.out HON.out (by unfold maxLen; omega) (by omega) (by have := HS1.out; simp; omega) ?_)
    intro v' w2 hown1 hgrow hat
    obtain ⟨va, vc, rfl⟩ : ∃ va vc, v' = .slice va nn vc := own_shape hown1
    have hv3 : w2.heap[w.heap.size]? = some (.cells #[.int .u8 k, .bool b, .int .i64 n, .string s, .slice la len lc, .slice (some ad) nn nc'] 25 (0, 0)) := by
      rw [hgrow.block _ (Go.lt_of_block HV2.out) (fun e => by have := HS1.out; simp [Value.ownBlock] at e; omega)]; exact HV2.out
    have hf3 := Lib.frozen_of_heap hv3 5
    obtain ⟨x0, x1, x2, x3, x4, x5⟩ := x6_of hv3
    have HV3 := hid hv3
    have HN3 : Hid (World.ownsRow w2 (w.heap.size + 2) 9 1 (.slice va nn vc) ns.length (ns.map Value.string)) := by show World.ownsRow _ _ _ _ _ _ _; rw [hnn]; exact hown1
    have HZ3 : Hid (w2.heap[w.heap.size + 1]? = some (vRow 0 (.slice none 0 0) (.slice none 0 0))) := by
      show _ = _
      rw [hgrow.block _ (Go.lt_of_block HZ2.out) (fun e => by have := HS1.out; simp [Value.ownBlock] at e; omega)]; exact HZ2.out
    have HB3 : Hid (Below w.heap.size w w2) := HB2.out.grown hgrow HB2.out.size (fun k hk => by have := HS1.out; simp [Value.ownBlock] at hk; omega)
    clear hv3 hown1 hgrow hat
    go_upto_region 2 with fail
    have hsz3 : w.heap.size + 2 ≤ (w2).heap.size := by have := (HB3.out).size; have := Go.lt_of_block HZ3.out; omega
    have HT0 : Hid (RT w P (w2).heap.size (.cells #[.int .u8 k, .bool b, .int .i64 n, .string s, .slice la len lc, .slice va nn vc] 25 (0, 0)) (.slice va nn vc) ns .nil l g (o + 0 * 6) (.slice none 0 0) ((w2).setCell ⟨w.heap.size, 5, none⟩ (.slice va nn vc))) := by
      show RT _ _ _ _ _ _ _ _ _ _ _ _
      rw [Nat.zero_mul, Nat.add_zero]
      exact RT.start HV3.out HZ3.out HN3.out (HB3.out) hsz3 (fun hne => (HGO.out hne).2.2) HPP.out
    obtain ⟨B, hB⟩ : ∃ B, (w2).heap.size = B := ⟨_, rfl⟩
    rw [hB] at HT0
    obtain ⟨w4, hw4⟩ : ∃ w4, (w2).setCell ⟨w.heap.size, 5, none⟩ (.slice va nn vc) = w4 := ⟨_, rfl⟩
    rw [hw4] at HT0 ⊢
    clear hw4 hB hsz3 x0 x1 x2 x3 x4 x5
    go_upto_region 4 with fail
    go_loopw [3, 4] (fun vl vi wr => ∃ (i : Nat) (lv : Value), i ≤ len ∧ vi = .int .i64 i ∧ vl = lv ∧ ∃ (t1 t2 : J.T), Hid (t1.app t2 = l ∧ t1.length = i) ∧ Hid (RT w P B (.cells #[.int .u8 k, .bool b, .int .i64 n, .string s, .slice la len lc, .slice va nn vc] 25 (0, 0)) (.slice va nn vc) ns t1 t2 g (o + i * 6) lv wr)) (fun _ vi _ => len - (intOf vi).toNat)
    case atStart => exact ⟨0, _, Nat.zero_le _, rfl, rfl, .nil, l, hid ⟨rfl, rfl⟩, HT0⟩
    case round =>
      obtain ⟨i, lv, hi, rfl, rfl, t1, t2, HA, HI⟩ := hrel
      clear HT0
      obtain ⟨x0, x1, x2, x3, x4, x5⟩ := x6_of HI.out.v
      obtain ⟨va', vc', rfl⟩ := HI.out.l.shape
      rw [HA.out.2] at HI ⊢
      by_cases hlt : i < len
      · have d0 : decide ((i : Int) < (len : Int)) = true := decide_eq_true (by omega)
        have d1 : decide (i < len) = true := decide_eq_true (by omega)
        have hlen2 : t1.length + t2.length = len := by rw [← HLE.out, ← HA.out.1, J.T.app_length]
        cases t2 with
        | nil => have := HA.out.2; simp [J.T.length] at hlen2; omega
        | cons k1 b1 v1 s1 l1 ns1 r =>
          obtain ⟨al, cl, an, cn, u0, u1, u2, u3, u4, u5, hh, hr⟩ := (HI.out.c (fun h => by cases h)).head
          have hlne : l ≠ .nil := fun h => by have := HLE.out; rw [h] at this; simp [J.T.length] at this; omega
          obtain ⟨hga, hgc, -⟩ := HGO.out hlne
          rw [HLE.out] at hgc
          subst hga
          have HC := hid (show RTwinC ⟨k1, b1, v1, s1, l1, ns1⟩ from (J.T.All.app (p := RTwinC) t1 (.cons k1 b1 v1 s1 l1 ns1 r) (by rw [HA.out.1]; exact HALL.out)).2.1)
          have HES := hid (show J.V.small ⟨k1, b1, v1, s1, l1, ns1⟩ from (J.T.small_app t1 (.cons k1 b1 v1 s1 l1 ns1 r) (by rw [HA.out.1]; exact HSM.out)).2.1)
          have cT := HC.out HES.out wr P _ hh (fun j hj => Nat.lt_of_lt_of_le (HPP.out j hj) HI.out.b.size)
          have HRE : Hid (RT w P B (.cells #[.int .u8 k, .bool b, .int .i64 n, .string s, .slice (some ⟨g, o, none⟩) len lc, .slice va nn vc] 25 (0, 0)) (.slice va nn vc) ns t1 r g (o + i * 6 + 6) (.slice va' i vc') wr) := ⟨HI.out.v, HI.out.z, HI.out.n, HI.out.nb, HI.out.l, fun _ => hr, HI.out.b, HI.out.lo, HI.out.hi⟩
          have hi0 : (0 : Int) ≤ (i : Int) := by omega
          have hi1 : (i : Int) < (len : Int) := by omega
          clear hh hr hlen2 hlne
          go_upto_region 6 with fail
          go_wp2_with fail
          refine cT.mono ?_
          rintro e w6 ⟨cs, rfl, hh, hb⟩
          obtain ⟨k2, b2, n2, s2, a1, l2, c1, a2, m2, c2, rfl⟩ := Shape.of hh
          obtain ⟨w7, hw7⟩ : ∃ w7, w6.alloc (.cells #[.int .u8 k2, .bool b2, .int .i64 n2, .string s2, .slice a1 l2 c1, .slice a2 m2 c2] 25) = w7 := ⟨_, rfl⟩
          have hb7 : Below w6.heap.size w6 w7 := by rw [← hw7]; exact (Below.refl _ w6).alloc (Nat.le_refl _) _
          have HR6 := (HRE.out.after HPP.out hb)
          have HR7 := hid (HR6.after HPP.out hb7)
          have hll := HRE.out.l.lt
          have HX7 : Hid (J.V.Has w7 (Own w7 B (Value.slice va' i vc').ownBlock) ⟨k1, b1, v1, s1, l1, ns1⟩ [.int .u8 k2, .bool b2, .int .i64 n2, .string s2, .slice a1 l2 c1, .slice a2 m2 c2]) := by
            refine J.V.Has.keep (P := Own w6 wr.heap.size none) ?_ (fun b hb' => hb7.block b hb'.2.1) hh
            rintro b' ⟨h1, h2, _, cs', T, h4⟩
            exact ⟨Nat.le_trans HI.out.hi h1, Nat.lt_of_lt_of_le h2 hb7.size, fun e => by have := (hll _ e).2; omega, cs', T, by rw [hb7.block _ h2]; exact h4⟩
          obtain ⟨cr, hrow, hcells⟩ := HR7.out.l
          rw [HA.out.2] at hrow
          have HROW := hid hrow
          have HCELLS := hid hcells
          have HNEW := hid (World.news_of_block (heap_alloc_new w6 (.cells #[.int .u8 k2, .bool b2, .int .i64 n2, .string s2, .slice a1 l2 c1, .slice a2 m2 c2] 25)))
          rw [hw7] at HNEW
          have HON : Hid (∀ u ∈ ([.int .u8 k2, .bool b2, .int .i64 n2, .string s2, .slice a1 l2 c1, .slice a2 m2 c2] : List Value), u.oneCell' = true) := Shape.one ⟨_, _, _, _, _, _, _, _, _, _, rfl⟩
          have HW7 := hid hw7
          have hB7 : B ≤ w7.heap.size := HR7.out.hi
          clear hh hb hb7 HR6 hll hrow hcells cT u0 u1 u2 u3 u4 u5 x0 x1 x2 x3 x4 x5 hw7
          have HROWL : Hid (World.ownsRow (w6.alloc (.cells #[.int .u8 k2, .bool b2, .int .i64 n2, .string s2, .slice a1 l2 c1, .slice a2 m2 c2] 25)) B 25 6 (.slice va' i vc') i cr) := by show World.ownsRow _ _ _ _ _ _ _; rw [HW7.out]; exact HROW.out
          have HNEWL := hid (World.news_of_block (heap_alloc_new w6 (.cells #[.int .u8 k2, .bool b2, .int .i64 n2, .string s2, .slice a1 l2 c1, .slice a2 m2 c2] 25)))
          have HBL : Hid (B ≤ (w6.alloc (.cells #[.int .u8 k2, .bool b2, .int .i64 n2, .string s2, .slice a1 l2 c1, .slice a2 m2 c2] 25)).heap.size) := by show _ ≤ _; rw [HW7.out]; exact hB7
          have hlen11 : len ≤ 100000000000 := by have := HLE.out; omega
          clear hB7
          go_wp2_with (at_builtin; go_loud (refine wpList_append_lies _ rfl _ _ 22 rfl B 25 i0 _ 6 80 Tryz.underlying22 HQ.out.1 HQ.out.2.1 HQ.out.2.2.1 HQ.out.2.2.2 rfl (by decide) (.slice va' i vc') i cr rfl HROWL.out ⟨w6.heap.size, 0, none⟩ 1 1 [.int .u8 k2, .bool b2, .int .i64 n2, .string s2, .slice a1 l2 c1, .slice a2 m2 c2] rfl rfl HNEWL.out HON.out (by decide) (by unfold maxLen; omega) (by omega) HBL.out _ rfl ?_))
          intro gg cap w8 hown hgrow hat hlt8
          rw [HW7.out] at hgrow
          rw [show w6.heap.size + 1 = w7.heap.size by rw [← HW7.out]; simp] at hat
          have HR8 := hid (RT.more HR7.out HPP.out HX7.out HCELLS.out HA.out.2 hown hgrow hat)
          clear hown hgrow hat hlt8
          go_wp2_with fail
          go_roundw
          case rel =>
            refine ⟨i + 1, _, by omega, by go_num, rfl, t1.snoc ⟨k1, b1, v1, s1, l1, ns1⟩, r, hid ⟨?_, ?_⟩, by rw [show o + (i + 1) * 6 = o + i * 6 + 6 by omega]; exact HR8⟩
            · rw [← HA.out.1]; unfold J.T.snoc; rw [J.T.app_assoc]; rfl
            · rw [J.T.snoc_length, HA.out.2]
          case measure => simp [intOf]; omega
      · have d0 : decide ((i : Int) < (len : Int)) = false := decide_eq_false (by omega)
        have d1 : decide (i < len) = false := decide_eq_false (by omega)
        have ht2 : t2 = .nil := T_nil (by have := HA.out.2; have := HLE.out; rw [← HA.out.1, J.T.app_length] at this; omega)
        subst ht2
        have hl1 : t1 = l := by rw [← HA.out.1, J.T.app_nil]
        have HL1 := hid hl1
        have hil : i = len := by omega
        have hv5 := row_set HI.out.v 4 (.slice va' i vc')
        have hz5 : (wr.setCell ⟨w.heap.size, 4, none⟩ (.slice va' i vc')).heap[w.heap.size + 1]? = some (vRow 0 (.slice none 0 0) (.slice none 0 0)) := by
          rw [(grownBy_set wr w.heap.size 4 (.slice va' i vc')).block _ (Go.lt_of_block HI.out.z) (fun e => by have := Option.some.inj e; omega)]; exact HI.out.z
        have HZ5 := hid hz5
        have hf4 := Lib.frozen_of_heap HI.out.v 4
        obtain ⟨q0, q1, q2, q3, q4, q5⟩ := x6_of hv5
        obtain ⟨v0, v1, v2, v3, v4, v5⟩ := vcells hz5
        obtain ⟨f0, f1, f2, f3, f4, f5⟩ := vfree hz5
        clear hl1 hv5 hz5 hil
        go_wp2_with fail
        exact bodyPost_ret (v := .agg #[.int .u8 k, .bool b, .int .i64 n, .string s, .slice va' i vc', .slice va nn vc]) (results_cell_row rfl _ _ (w.heap.size + 1) 25 _ (0, 0) _ rfl (pt6_row HZ5.out _ _ _ _ _ _) Tryz.underlying25 rfl infoJSON) rfl (RT.done HI.out HL1.out _ _ _ _ _ _)
theorem rtwin_any (x : J.V) : RTwinC x := J.V.of rtwin_step x
end Go.Proofs.YtphjfighamadgaaGreatDoor
