/- The walk of the reference's Put. -/
import Derived.Test.YtohdifffdgoaaaaDoorVRefS
namespace Go.Proofs.YtohdifffdgoaaaaDoor
open Go.RowKit
open Go.Lib (hid)
open V Srt
namespace V
def lastI (l : List (List UInt8)) (x : List UInt8) : Int := match lastIdx l x with | none => -1 | some i => (i : Nat)
theorem lastI_nil (x : List UInt8) : lastI [] x = -1 := rfl
theorem lastI_yes {l : List (List UInt8)} {y x : List UInt8} (h : y = x) : lastI (l ++ [y]) x = (l.length : Nat) := by
  unfold lastI; rw [lastIdx_snoc, if_pos h]
theorem lastI_no {l : List (List UInt8)} {y x : List UInt8} (h : y ≠ x) : lastI (l ++ [y]) x = lastI l x := by
  unfold lastI; rw [lastIdx_snoc, if_neg h]
end V
theorem own_form {B m c : Nat} {os : List Bind} {a : Option Addr} {w : World} (h : BOwn B os (.slice a m c) w) (hm : 0 < m) : ∃ g, a = some ⟨g, 0, none⟩ ∧ B ≤ g := by
  rcases h.form with ⟨h1, _⟩ | ⟨g, cap, h1, _, h2⟩
  · simp only [Value.slice.injEq] at h1
    omega
  · simp only [Value.slice.injEq] at h1
    exact ⟨g, h1.1, h2⟩
theorem names_take {os : List Bind} {names : List (List UInt8)} {t : Nat} {y : Bind} (h : os.map Bind.nm = names) (hy : os[t]? = some y) : names.take (t + 1) = names.take t ++ [y.nm] ∧ (names.take t).length = t := by
  subst h
  have hl := (List.getElem?_eq_some_iff.1 hy).1
  refine ⟨?_, by rw [List.length_take, List.length_map]; omega⟩
  rw [List.take_add_one, List.getElem?_map, hy]; rfl
theorem names_set {os : List Bind} {names : List (List UInt8)} {i : Nat} {y b : Bind} (h : os.map Bind.nm = names) (hy : os[i]? = some y) (hn : y.nm = b.nm) : (os.set i b).map Bind.nm = names := by
  rw [List.map_set, h]
  apply List.ext_getElem?
  intro j
  by_cases e : i = j
  · subst e
    have hl : i < names.length := by rw [← h, List.length_map]; exact (List.getElem?_eq_some_iff.1 hy).1
    rw [List.getElem?_set_self hl, ← h, List.getElem?_map, hy, ← hn]; rfl
  · rw [List.getElem?_set_ne e]
set_option maxRecDepth 100000 in
set_option maxHeartbeats 3000000 in
theorem refPut_any (vars patch : List Bind) (sa sb : Value) (w : World) (ha : BIn w vars sa) (hb : BIn w patch sb) (hl : vars.length * 56 ≤ 140737488355328) (hl' : patch.length ≤ 10000000000000)
    (hz : ∀ b ∈ vars, b.name.size ≤ 9223372036854775807 ∧ b.v.s.size ≤ 9223372036854775807) (hz' : ∀ b ∈ patch, b.name.size ≤ 9223372036854775807 ∧ b.v.s.size ≤ 9223372036854775807) :
    Calls Tryd.prog 26 #[sa, sb] w (PutOf (put vars patch) w) := by
  obtain ⟨R, hR⟩ : ∃ R, put vars patch = R := ⟨_, rfl⟩
  rw [hR]
  unfold put at hR
  obtain ⟨E1, hE1⟩ : ∃ x, checkB vars = x := ⟨_, rfl⟩
  obtain ⟨E2, hE2⟩ : ∃ x, checkB patch = x := ⟨_, rfl⟩
  rw [hE1, hE2] at hR
  have cK1 := fun X (h : BIn X vars sa) => refCheckBinds_any vars sa X h (by omega) hz
  have cK2 := fun X (h : BIn X patch sb) => refCheckBinds_any patch sb X h hl' hz'
  rw [hE1] at cK1
  rw [hE2] at cK2
  have HK1 := hid cK1
  have HK2 := hid cK2
  have HA := hid ha
  have HB := hid hb
  obtain ⟨np, hnp⟩ : ∃ n, patch.length = n := ⟨_, rfl⟩
  obtain ⟨xb, cb, hsb⟩ := hb.shape
  rw [hnp] at hsb hl'
  subst hsb
  have HNP := hid hnp
  have HR := hid hR
  clear hE1 hE2 cK1 cK2 ha hb hz hz' hnp hR
  by_cases z1 : E1 = 0
  · have t1 : (E1 != 0) = false := by simp [z1]
    have HR1 := hid (by have := HR.out; rw [if_neg (by simp [z1])] at this; exact this)
    clear z1 HR
    by_cases z2 : E2 = 0
    · have t2 : (E2 != 0) = false := by simp [z2]
      have HR2 := hid (by have := HR1.out; rw [if_neg (by simp [z2])] at this; exact this)
      clear z2 HR1
      obtain ⟨m, hm⟩ : ∃ m, vars.length = m := ⟨_, rfl⟩
      obtain ⟨names, hnames⟩ : ∃ l, vars.map Bind.nm = l := ⟨_, rfl⟩
      rw [hm] at hl
      have HM := hid hm
      have HNM := hid hnames
      clear hm hnames
      have HR3 : Hid (putL names vars patch = R) := by have := HR2.out; rw [HNM.out] at this; exact this
      clear HR2
      go_enter Tryd.func26, Tryd.ntmps26
      go_wp2_with fail
      refine (HK1.out _ HA.out).mono ?_
      rintro e w1 ⟨rfl, bb⟩
      have B1 := hid bb
      clear bb
      go_wp2_with fail
      refine (HK2.out _ (HB.out.below B1.out)).mono ?_
      rintro e w2 ⟨rfl, bb⟩
      have B2 := hid (B1.out.trans (bb.mono B1.out.size))
      have IA := hid (HA.out.below B2.out)
      clear bb B1 HK1 HK2
      go_wp2_with (at_builtin; refine wpList_app_binds rfl _ _ rfl w.heap.size [] vars _ _ rfl (BOwn.nil _ _) rfl IA.out (by have := HM.out; simp; omega) B2.out.size ?_)
      intro v3 w3 hown hgrow
      have O3 : Hid (BOwn w.heap.size vars v3 w3) := by
        show BOwn _ _ _ _
        first | exact hown | (rw [List.nil_append] at hown; exact hown)
      have B3 := hid (B2.out.grown hgrow B2.out.size (fun g hq => by simp [Value.ownBlock] at hq))
      clear hown hgrow B2 IA t1 t2
      obtain ⟨xo, co, hv3⟩ := O3.out.is.shape
      rw [HM.out] at hv3
      subst hv3
      go_wp2_with fail
      go_loopw [8] (fun vi wr => ∃ (k : Nat) (os : List Bind), k ≤ np ∧ vi = .int .i64 k ∧ Hid (putL names vars patch = putL names os (patch.drop k) ∧ os.map Bind.nm = names ∧ os.length = m ∧ BOwn w.heap.size os (.slice xo m co) wr ∧ Below w.heap.size w wr)) (fun vi _ => np - (intOf vi).toNat)
      case atStart => exact ⟨0, vars, by omega, rfl, hid ⟨rfl, HNM.out, HM.out, O3.out, B3.out⟩⟩
      case round =>
        obtain ⟨k, os, hk, rfl, hS⟩ := hrel
        rename World => wo
        clear O3 B3
        by_cases hlt : k < np
        · have hl0 : decide ((k : Int) < (np : Int)) = true := by simp; omega
          have hkp : k < patch.length := by have := HNP.out; omega
          obtain ⟨b, o, _, hsv, hbl, c0, c1, c2, c3, c4⟩ := HB.out.cells hkp
          rw [HNP.out] at hsv
          simp only [Value.slice.injEq, true_and] at hsv
          obtain ⟨rfl, rfl⟩ := hsv
          have hk0 : (0 : Int) ≤ (k : Int) := by omega
          have hk1 : (k : Int) < (np : Int) := by omega
          obtain ⟨p, hp⟩ : ∃ p, patch[k] = p := ⟨_, rfl⟩
          have hdr : patch.drop k = p :: patch.drop (k + 1) := by rw [List.drop_eq_getElem_cons hkp, hp]
          rw [hp] at c0 c1 c2 c3 c4
          obtain ⟨x, kk, nn, bb, ss⟩ := p
          simp only at c0 c1 c2 c3 c4
          have CW := hid (And.intro c0 (And.intro c1 (And.intro c2 (And.intro c3 c4))))
          have hput := hS.out.1
          rw [hdr, putL] at hput
          have HPUT := hid hput
          have HNMS := hid hS.out.2.1
          have HOL := hid hS.out.2.2.1
          have HO := hid hS.out.2.2.2.1
          have HW := hid hS.out.2.2.2.2
          clear hp hdr hput hkp c0 c1 c2 c3 c4 hS
          go_wp2_with fail
          go_loopw [9, 10] (fun va vt wz => ∃ (t : Nat), t ≤ m ∧ vt = .int .i64 t ∧ va = .int .i64 (lastI (names.take t) x.data.toList) ∧ Hid (BOwn w.heap.size os (.slice xo m co) wz ∧ Below w.heap.size w wz)) (fun _ vt _ => m - (intOf vt).toNat)
          case atStart => exact ⟨0, by omega, rfl, by rw [List.take_zero, lastI_nil], hid ⟨HO.out, HW.out⟩⟩
          case round =>
            obtain ⟨t, ht, rfl, rfl, hT⟩ := hrel
            obtain ⟨at_, hat⟩ : ∃ z, lastI (names.take t) x.data.toList = z := ⟨_, rfl⟩
            rw [hat]
            have HAT := hid hat
            clear hat HO HW
            by_cases htm : t < m
            · have hl1 : decide ((t : Int) < (m : Int)) = true := by simp; omega
              obtain ⟨g, rfl, hgB⟩ := own_form hT.out.1 (by omega)
              obtain ⟨⟨yn, ⟨yk, yi, yb, ys⟩⟩, hy⟩ : ∃ y, os[t]? = some y := ⟨_, List.getElem?_eq_getElem (by rw [HOL.out]; exact htm)⟩
              obtain ⟨a0, -⟩ := bown_cells hT.out.1 HOL.out htm hy
              have x0 := (hT.out.2.cell (p := ⟨b, _, none⟩) hbl).trans CW.out.1
              obtain ⟨n1, n2⟩ := names_take HNMS.out hy
              have T0 : (0 : Int) ≤ (t : Int) := by omega
              have T1 : (t : Int) < (m : Int) := by omega
              by_cases he : yn.data.toList = x.data.toList
              · have f0 := bytes_yes he
                have HNX : Hid (lastI (names.take (t + 1)) x.data.toList = (t : Nat)) := by
                  show _ = _
                  rw [n1]; exact (lastI_yes he).trans (by rw [n2])
                clear he n1 n2 hy
                go_wp2_with fail
                go_region
                go_wp2_with fail
                go_roundw
                case rel => exact ⟨t + 1, by omega, by go_num, by rw [HNX.out], hid ⟨BOwn.drew hT.out.1, hT.out.2.drew⟩⟩
                case measure => simp [intOf]; omega
              · have f0 := bytes_ne he
                have HNX : Hid (lastI (names.take (t + 1)) x.data.toList = at_) := by
                  show _ = _
                  rw [n1]; exact (lastI_no he).trans HAT.out
                clear he n1 n2 hy
                go_wp2_with fail
                go_region
                go_wp2_with fail
                go_roundw
                case rel => exact ⟨t + 1, by omega, by go_num, by rw [HNX.out], hid ⟨BOwn.drew hT.out.1, hT.out.2.drew⟩⟩
                case measure => simp [intOf]; omega
            · have hl1 : decide ((t : Int) < (m : Int)) = false := by simp; omega
              obtain rfl : t = m := by omega
              have hat2 := HAT.out
              have hnl : names.length = t := by rw [← HNMS.out, List.length_map, HOL.out]
              rw [List.take_of_length_le (by omega)] at hat2
              unfold lastI at hat2
              have hput := HPUT.out
              change putL names vars patch = (match lastIdx names x.data.toList with | none => ([], 100) | some i => if (os[i]?.map fun o => o.v.k) = some kk then putL names (os.set i ⟨x, ⟨kk, nn, bb, ss⟩⟩) (patch.drop (k + 1)) else ([], 90)) at hput
              cases hli : lastIdx names x.data.toList with
              | none =>
                rw [hli] at hat2 hput
                simp only at hat2 hput
                subst hat2
                have HE : Hid (R = ([], 100)) := HR3.out.symm.trans hput
                clear hput hli hnl
                go_wp2_with fail
                go_ret2
                exact ⟨.slice none 0 0, by rw [HE.out]; rfl, by rw [HE.out]; exact BOwn.nil _ _, hT.out.2⟩
              | some i =>
                rw [hli] at hat2 hput
                simp only at hat2 hput
                subst hat2
                have hil := lastIdx_lt _ names _ i rfl hli
                have hit : i < t := by have := hil.1; omega
                obtain ⟨g, rfl, hgB⟩ := own_form hT.out.1 (by omega)
                obtain ⟨⟨yn, ⟨yk, yi, yb, ys⟩⟩, hy⟩ : ∃ y, os[i]? = some y := ⟨_, List.getElem?_eq_getElem (by rw [HOL.out]; exact hit)⟩
                rw [hy] at hput
                simp only [Option.map_some, Option.some.injEq] at hput
                have hnm : yn.data.toList = x.data.toList := by
                  have := hil.2
                  rw [← HNMS.out, List.getElem?_map, hy] at this
                  exact Option.some.inj this
                obtain ⟨a0, a1, -⟩ := bown_cells hT.out.1 HOL.out hit hy
                have x1 := (hT.out.2.cell (p := ⟨b, _, none⟩) hbl).trans CW.out.2.1
                have I0 : (0 : Int) ≤ (i : Int) := by omega
                have I1 : (i : Int) < (t : Int) := by omega
                have d0 : decide ((i : Int) < 0) = false := by simp
                have HY := hid hy
                have HNN := hid hnm
                clear hli hil hnl hy hnm a0
                by_cases hkk : yk = kk
                · subst hkk
                  rw [if_pos rfl] at hput
                  have t3 : ((yk : Int) != (yk : Int)) = false := by simp
                  have HPP := hid hput
                  clear hput
                  go_wp2_with fail
                  go_region
                  have x0 := (hT.out.2.drew.cell (p := ⟨b, _, none⟩) hbl).trans CW.out.1
                  have x1 := (hT.out.2.drew.cell (p := ⟨b, _, none⟩) hbl).trans CW.out.2.1
                  have x2 := (hT.out.2.drew.cell (p := ⟨b, _, none⟩) hbl).trans CW.out.2.2.1
                  have x3 := (hT.out.2.drew.cell (p := ⟨b, _, none⟩) hbl).trans CW.out.2.2.2.1
                  have x4 := (hT.out.2.drew.cell (p := ⟨b, _, none⟩) hbl).trans CW.out.2.2.2.2
                  have HOD := hid (BOwn.drew hT.out.1)
                  have HBD := hid hT.out.2.drew
                  clear a1 hT
                  generalize World.drew _ = wd at *
                  obtain ⟨a0, a1, a2, a3, a4⟩ := bown_cells HOD.out HOL.out hit HY.out
                  have hfz := bown_free HOD.out HOL.out
                  have f0 := hfz (i * 5)
                  have f1 := hfz (i * 5 + 1)
                  have f2 := hfz (i * 5 + 2)
                  have f3 := hfz (i * 5 + 3)
                  have f4 := hfz (i * 5 + 4)
                  clear hfz
                  go_wp2_with fail
                  go_roundw
                  case rel =>
                    exact ⟨k + 1, os.set i ⟨x, ⟨yk, nn, bb, ss⟩⟩, by omega, by go_num, hid ⟨HPP.out, names_set HNMS.out HY.out HNN.out, by rw [List.length_set]; exact HOL.out, stB_own HOD.out HOL.out i ⟨x, ⟨yk, nn, bb, ss⟩⟩ hit, stB_below ⟨x, ⟨yk, nn, bb, ss⟩⟩ HBD.out hgB⟩⟩
                  case measure => simp [intOf]; omega
                · rw [if_neg hkk] at hput
                  have t3 : ((yk : Int) != (kk : Int)) = true := by simp; omega
                  have HE : Hid (R = ([], 90)) := HR3.out.symm.trans hput
                  clear hput
                  go_wp2_with fail
                  go_region
                  go_wp2_with fail
                  go_ret2
                  exact ⟨.slice none 0 0, by rw [HE.out]; rfl, by rw [HE.out]; exact BOwn.nil _ _, hT.out.2.drew⟩
        · have hl0 : decide ((k : Int) < (np : Int)) = false := by simp; omega
          have HE : Hid (R = (os, 0)) := by
            show _ = _
            rw [← HR3.out, hS.out.1, List.drop_eq_nil_of_le (by have := HNP.out; omega)]; rfl
          go_wp2_with fail
          go_ret2
          exact ⟨_, by rw [HE.out]; rfl, by rw [HE.out]; exact hS.out.2.2.2.1, hS.out.2.2.2.2⟩
    · have t2 : (E2 != 0) = true := by simp [z2]
      have HE : Hid (R = ([], E2)) := by have := HR1.out; rw [if_pos (by simp [z2])] at this; exact this.symm
      go_enter Tryd.func26, Tryd.ntmps26
      go_wp2_with fail
      refine (HK1.out _ HA.out).mono ?_
      rintro e w1 ⟨rfl, bb⟩
      have B1 := hid bb
      clear bb
      go_wp2_with fail
      refine (HK2.out _ (HB.out.below B1.out)).mono ?_
      rintro e w2 ⟨rfl, bb⟩
      have B2 := hid (B1.out.trans (bb.mono B1.out.size))
      clear bb B1 HK1 HK2
      go_wp2_with fail
      go_ret2
      exact ⟨.slice none 0 0, by rw [HE.out]; rfl, by rw [HE.out]; exact BOwn.nil _ _, B2.out⟩
  · have t1 : (E1 != 0) = true := by simp [z1]
    have HE : Hid (R = ([], E1)) := by have := HR.out; rw [if_pos (by simp [z1])] at this; exact this.symm
    go_enter Tryd.func26, Tryd.ntmps26
    go_wp2_with fail
    refine (HK1.out _ HA.out).mono ?_
    rintro e w1 ⟨rfl, bb⟩
    have B1 := hid bb
    clear bb HK1 HK2
    go_wp2_with fail
    go_ret2
    exact ⟨.slice none 0 0, by rw [HE.out]; rfl, by rw [HE.out]; exact BOwn.nil _ _, B1.out⟩
end Go.Proofs.YtohdifffdgoaaaaDoor
