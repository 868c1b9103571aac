/- The walk of KeyRecords. -/
import Derived.Test.YtfadnhihcobclaaDoorKRDec
import Derived.Test.YtfadnhihcobclaaDoorKRItems
import Derived.Test.YtfadnhihcobclaaDoorKGiven
import Derived.Test.YtfadnhihcobclaaDoorKSpoil
import Derived.Test.YtfadnhihcobclaaDoorKKSame
import Derived.Test.YtfadnhihcobclaaDoorKLawI
import Derived.Test.YtfadnhihcobclaaDoorKAwake
import Derived.Test.YtfadnhihcobclaaDoorKArgI
namespace Go.Proofs.YtfadnhihcobclaaDoor
open Go.RowKit
open Go.Lib (hid)
open K
namespace K
theorem sameI_refl : ∀ (l : Items), sameI l l = true
  | .nil => rfl
  | .cons k n s l r => by rw [sameI_cons, sameI_refl l, sameI_refl r]; simp
theorem dec_room (l : List UInt8) : (decode l).1.room ≤ 11 * l.length := by
  by_cases h : (decode l).2 = 0
  · exact (encode_decode l h).2.2
  · rw [decode_no l h]; exact Nat.zero_le _
theorem Sp.below {P : Nat → Prop} {w w' : World} {B : Nat} (h : Sp P w w') (hP : ∀ k, P k → B ≤ k) : Below B w w' :=
  ⟨h.os, h.tape, h.output, Nat.le_of_eq h.size.symm, fun k hk => h.far k (fun e => by have := hP k e; omega)⟩
theorem Lies.far {P Q : Nat → Prop} {w w' : World} (h : Sp P w w') {l : Items} {v : Value} (hv : l.Lies w Q v) (hd : ∀ k, Q k → ¬ P k) : l.Lies w' Q v :=
  hv.keep (fun _ h => h) fun b hb => h.far b (hd b hb)
end K
theorem ret_true {a : Bool} (h : a = true) : Ending.returned (.bool a) = .returned (.bool true) := by rw [h]
set_option maxRecDepth 100000 in
set_option maxHeartbeats 16000000 in
theorem records_main (l m : Items) (v0 v1 : Value) (s : ByteArray) (w : World) (hv0 : l.In w w.heap.size v0) (hm0 : l.may) (hr0 : l.room ≤ 11534336) (hv1 : m.In w w.heap.size v1) (hm1 : m.may) (hr1 : m.room ≤ 11534336) (hM : Max w) (hs : s.size ≤ 110000)
    (hA : 0 ≤ K.small l 2000 0) (hB : 0 ≤ K.small m 2000 0) :
    Calls Tryd.prog 6 #[v0, v1, .string s] w fun e w' => e = .returned (.bool true) ∧ Below w.heap.size w w' := by
  have hls : s.data.toList.length = s.size := Array.length_toList
  have cA := small_any (l.sz + 1) l (Nat.lt_succ_self _) v0 2000 0 w.heap.size w hv0 (by omega) hm0 (by decide) (by decide) (by decide) (by decide)
  have cB := small_any (m.sz + 1) m (Nat.lt_succ_self _) v1 2000 0 w.heap.size w hv1 (by omega) hm1 (by decide) (by decide) (by decide) (by decide)
  obtain ⟨a, ha⟩ : ∃ a, K.small l 2000 0 = a := ⟨_, rfl⟩
  obtain ⟨b, hb⟩ : ∃ b, K.small m 2000 0 = b := ⟨_, rfl⟩
  rw [ha] at cA hA
  rw [hb] at cB hB
  have HV0 := hid hv0
  have HV1 := hid hv1
  have HMX := hid hM
  have ta : decide (a < 0) = false := decide_eq_false (by omega)
  have tb : decide (b < 0) = false := decide_eq_false (by omega)
  have ts : decide ((110000 : Int) < (s.size : Int)) = false := decide_eq_false (by omega)
  have HR := hid (dec_room s.data.toList)
  obtain ⟨E, hE⟩ : ∃ E, K.encode l = E := ⟨_, rfl⟩
  obtain ⟨E1, E2⟩ := E
  obtain ⟨D, hD⟩ : ∃ D, K.decode s.data.toList = D := ⟨_, rfl⟩
  obtain ⟨D1, D2⟩ := D
  have hdr : D1.room ≤ 1210000 := by
    have := HR.out
    rw [hD, hls] at this
    simp only at this
    omega
  obtain ⟨T, hT⟩ : ∃ T : ByteArray, (⟨E1.toArray⟩ : ByteArray) = T := ⟨_, rfl⟩
  have eT : (T.toList == T.toList) = true := by simp
  have eT2 : (T.toList != T.toList) = false := by simp
  have eE : (E2 != E2) = false := by simp
  have eD : (D2 != D2) = false := by simp
  obtain ⟨q, hq⟩ : ∃ q, sameI l m = q := ⟨_, rfl⟩
  have eq : (q != q) = false := by simp
  have HE := hid hE
  have HD := hid hD
  have HT := hid hT
  have HQ := hid hq
  clear ha hb hv0 hv1 hM HR hE hD hT hq hls
  go_enter Tryd.func6, Tryd.ntmps6
  have HB := hid (Below.refl w.heap.size w)
  go_wp2_with fail
  refine cA.mono ?_
  rintro e w0 ⟨rfl, hw0⟩
  have hw0x := hw0.out.symm
  subst hw0x
  clear hw0 cA
  go_wp2_with fail
  refine cB.mono ?_
  rintro e w0 ⟨rfl, hw0⟩
  have hw0x := hw0.out.symm
  subst hw0x
  clear hw0 cB
  go_wp2_with fail
  refine (given_any (l.sz + 1) l (Nat.lt_succ_self _) v0 w.heap.size w HV0.out (Nat.le_refl _) (by omega)).mono ?_
  rintro e w1 ⟨va, rfl, ga, bb⟩
  have GA := hid ga
  have HBN := hid (HB.out.trans (bb.mono HB.out.size))
  clear HB
  have HB := hid HBN.out
  clear HBN
  clear ga bb
  obtain ⟨a1, c1, hva⟩ := GA.out.shape
  obtain ⟨n1, hn1⟩ : ∃ n, l.length = n := ⟨_, rfl⟩
  rw [hn1] at hva
  subst hva
  clear hn1
  have cE := encode_any l (.slice a1 n1 c1) w1 GA.out.inn hm0 (by omega)
  rw [HE.out] at cE
  simp only at cE
  rw [HT.out] at cE
  go_wp2_with fail
  refine (cE).mono ?_
  rintro e w2 ⟨rfl, bb⟩
  have GAN := hid (GA.out.below bb)
  have HBN := hid (HB.out.trans (bb.mono HB.out.size))
  clear HB
  have HB := hid HBN.out
  clear HBN
  clear GA bb cE
  have GA := hid GAN.out
  clear GAN
  have cE := refEncode_any l v0 w2 (HV0.out.keep HB.out.size (fun b o h => HB.out.cell (p := ⟨b, o, none⟩) h)) hm0 (by omega)
  rw [HE.out] at cE
  simp only at cE
  rw [HT.out] at cE
  go_wp2_with fail
  refine (cE).mono ?_
  rintro e w3 ⟨rfl, bb⟩
  have GAN := hid (GA.out.below bb)
  have HBN := hid (HB.out.trans (bb.mono HB.out.size))
  clear HB
  have HB := hid HBN.out
  clear HBN
  clear GA bb cE
  have GA := hid GAN.out
  clear GAN
  have cE := ritems_same (l.sz + 1) l (Nat.lt_succ_self _) (.slice a1 n1 c1) v0 w3.heap.size w3 GA.out.inn (HV0.out.keep HB.out.size (fun b o h => HB.out.cell (p := ⟨b, o, none⟩) h)) (Nat.le_refl _) (by omega)
  go_wp2_with fail
  refine (cE).mono ?_
  rintro e w4 ⟨rfl, bb⟩
  have GAN := hid (GA.out.below bb)
  have HBN := hid (HB.out.trans (bb.mono HB.out.size))
  clear HB
  have HB := hid HBN.out
  clear HBN
  clear GA bb cE
  have GA := hid GAN.out
  clear GAN
  go_wp2_with fail
  refine (given_any (m.sz + 1) m (Nat.lt_succ_self _) v1 w4.heap.size w4 (HV1.out.keep HB.out.size (fun b o h => HB.out.cell (p := ⟨b, o, none⟩) h)) (Nat.le_refl _) (by omega)).mono ?_
  rintro e w5 ⟨vb, rfl, gb, bb⟩
  have GAN := hid (GA.out.below bb)
  have HBN := hid (HB.out.trans (bb.mono HB.out.size))
  clear HB
  have HB := hid HBN.out
  clear HBN
  have GB := hid gb
  clear gb bb GA
  have GA := hid GAN.out
  clear GAN
  obtain ⟨a2, c2, hvb⟩ := GB.out.shape
  obtain ⟨n2, hn2⟩ : ∃ n, m.length = n := ⟨_, rfl⟩
  rw [hn2] at hvb
  subst hvb
  clear hn2
  have cE := keySame_any (l.sz + 1) l m (Nat.lt_succ_self _) (.slice a1 n1 c1) (.slice a2 n2 c2) w5.heap.size w5 GA.out.inn GB.out.inn (Nat.le_refl _) (by omega) (by omega)
  rw [HQ.out] at cE
  go_wp2_with fail
  refine (cE).mono ?_
  rintro e w6 ⟨rfl, bb⟩
  have GAN := hid (GA.out.below bb)
  have HBN := hid (HB.out.trans (bb.mono HB.out.size))
  clear HB
  have HB := hid HBN.out
  clear HBN
  clear GA GB bb cE
  have GA := hid GAN.out
  clear GAN
  have cE := refSame_any (l.sz + 1) l m (Nat.lt_succ_self _) v0 v1 w6.heap.size w6 (HV0.out.keep HB.out.size (fun b o h => HB.out.cell (p := ⟨b, o, none⟩) h)) (HV1.out.keep HB.out.size (fun b o h => HB.out.cell (p := ⟨b, o, none⟩) h)) (Nat.le_refl _) (by omega) (by omega)
  rw [HQ.out] at cE
  go_wp2_with fail
  refine (cE).mono ?_
  rintro e w7 ⟨rfl, bb⟩
  have GAN := hid (GA.out.below bb)
  have HBN := hid (HB.out.trans (bb.mono HB.out.size))
  clear HB
  have HB := hid HBN.out
  clear HBN
  clear GA bb cE
  have GA := hid GAN.out
  clear GAN
  have cE := keySame_any (l.sz + 1) l l (Nat.lt_succ_self _) (.slice a1 n1 c1) (.slice a1 n1 c1) w7.heap.size w7 GA.out.inn GA.out.inn (Nat.le_refl _) (by omega) (by omega)
  rw [sameI_refl] at cE
  go_wp2_with fail
  refine (cE).mono ?_
  rintro e w8 ⟨rfl, bb⟩
  have HBN := hid (HB.out.trans (bb.mono HB.out.size))
  clear HB
  have HB := hid HBN.out
  clear HBN
  clear GA bb cE
  have hszw := HB.out.size
  have cE := decode_any s w8 (by omega)
  rw [HD.out] at cE
  go_wp2_with fail
  refine (cE).mono ?_
  rintro e w9 ⟨vx, rfl, lx, bb⟩
  have hszx := bb.size
  have Lx : Hid (D1.Lies w9 (fun b => w8.heap.size ≤ b ∧ b < w9.heap.size) vx) := lx
  have HBN := hid (HB.out.trans (bb.mono HB.out.size))
  clear HB
  have HB := hid HBN.out
  clear HBN
  clear lx bb cE
  have cE := refDecode_any s w9 (by omega)
  rw [HD.out] at cE
  go_wp2_with fail
  refine (cE).mono ?_
  rintro e w10 ⟨vy, rfl, ly, bb⟩
  have hszy := bb.size
  have Ly : Hid (D1.Lies w10 (fun b => w9.heap.size ≤ b ∧ b < w10.heap.size) vy) := ly
  have LxN : Hid (D1.Lies w10 (fun b => w8.heap.size ≤ b ∧ b < w9.heap.size) vx) := Lx.out.below bb (fun b hb => by omega)
  clear Lx
  have Lx := hid LxN.out
  clear LxN
  have HBN := hid (HB.out.trans (bb.mono HB.out.size))
  clear HB
  have HB := hid HBN.out
  clear HBN
  clear ly bb cE
  have cE := decode_any s w10 (by omega)
  rw [HD.out] at cE
  go_wp2_with fail
  refine (cE).mono ?_
  rintro e w11 ⟨vz, rfl, lz, bb⟩
  have hszz := bb.size
  have Lz : Hid (D1.Lies w11 (fun b => w10.heap.size ≤ b ∧ b < w11.heap.size) vz) := lz
  have LxN : Hid (D1.Lies w11 (fun b => w8.heap.size ≤ b ∧ b < w9.heap.size) vx) := Lx.out.below bb (fun b hb => by omega)
  clear Lx
  have Lx := hid LxN.out
  clear LxN
  have LyN : Hid (D1.Lies w11 (fun b => w9.heap.size ≤ b ∧ b < w10.heap.size) vy) := Ly.out.below bb (fun b hb => by omega)
  clear Ly
  have Ly := hid LyN.out
  clear LyN
  have HBN := hid (HB.out.trans (bb.mono HB.out.size))
  clear HB
  have HB := hid HBN.out
  clear HBN
  clear lz bb cE
  obtain ⟨ax, nx, cx, hvx⟩ : ∃ a n c, vx = .slice a n c := by
    rcases Lx.out with ⟨h, _⟩ | ⟨b, o, c, h, _⟩
    · exact ⟨none, 0, 0, h⟩
    · exact ⟨_, _, _, h⟩
  subst hvx
  obtain ⟨ay, ny, cy, hvy⟩ : ∃ a n c, vy = .slice a n c := by
    rcases Ly.out with ⟨h, _⟩ | ⟨b, o, c, h, _⟩
    · exact ⟨none, 0, 0, h⟩
    · exact ⟨_, _, _, h⟩
  subst hvy
  obtain ⟨az, nz, cz, hvz⟩ : ∃ a n c, vz = .slice a n c := by
    rcases Lz.out with ⟨h, _⟩ | ⟨b, o, c, h, _⟩
    · exact ⟨none, 0, 0, h⟩
    · exact ⟨_, _, _, h⟩
  subst hvz
  have cE := ritems_same (D1.sz + 1) D1 (Nat.lt_succ_self _) (.slice ax nx cx) (.slice ay ny cy) w11.heap.size w11 (Lx.out.inn (fun b hb => by omega)) (Ly.out.inn (fun b hb => by omega)) (Nat.le_refl _) (by omega)
  go_wp2_with fail
  refine (cE).mono ?_
  rintro e w12 ⟨rfl, bb⟩
  have hszi := bb.size
  have LxN : Hid (D1.Lies w12 (fun b => w8.heap.size ≤ b ∧ b < w9.heap.size) (.slice ax nx cx)) := Lx.out.below bb (fun b hb => by omega)
  clear Lx
  have Lx := hid LxN.out
  clear LxN
  have LyN : Hid (D1.Lies w12 (fun b => w9.heap.size ≤ b ∧ b < w10.heap.size) (.slice ay ny cy)) := Ly.out.below bb (fun b hb => by omega)
  clear Ly
  have Ly := hid LyN.out
  clear LyN
  have LzN : Hid (D1.Lies w12 (fun b => w10.heap.size ≤ b ∧ b < w11.heap.size) (.slice az nz cz)) := Lz.out.below bb (fun b hb => by omega)
  clear Lz
  have Lz := hid LzN.out
  clear LzN
  have HBN := hid (HB.out.trans (bb.mono HB.out.size))
  clear HB
  have HB := hid HBN.out
  clear HBN
  clear bb cE
  have cE := spoil_any (D1.sz + 1) D1 (Nat.lt_succ_self _) (fun b => w8.heap.size ≤ b ∧ b < w9.heap.size) (.slice ax nx cx) w12 Lx.out.shps (by omega)
  go_wp2_with fail
  refine (cE).mono ?_
  rintro e w13 ⟨rfl, sp⟩
  have LyN : Hid (D1.Lies w13 (fun b => w9.heap.size ≤ b ∧ b < w10.heap.size) (.slice ay ny cy)) := K.Lies.far sp Ly.out (fun b hb => by omega)
  clear Ly
  have Ly := hid LyN.out
  clear LyN
  have LzN : Hid (D1.Lies w13 (fun b => w10.heap.size ≤ b ∧ b < w11.heap.size) (.slice az nz cz)) := K.Lies.far sp Lz.out (fun b hb => by omega)
  clear Lz
  have Lz := hid LzN.out
  clear LzN
  have hszs := sp.size
  have HBN := hid (HB.out.trans (sp.below (B := w.heap.size) (fun b hb => by have := hszw; omega)))
  clear HB
  have HB := hid HBN.out
  clear HBN Lx sp cE
  have cE := ritems_same (D1.sz + 1) D1 (Nat.lt_succ_self _) (.slice az nz cz) (.slice ay ny cy) w13.heap.size w13 (Lz.out.inn (fun b hb => by omega)) (Ly.out.inn (fun b hb => by omega)) (Nat.le_refl _) (by omega)
  go_wp2_with fail
  refine (cE).mono ?_
  rintro e w14 ⟨rfl, bb⟩
  have HBN := hid (HB.out.trans (bb.mono HB.out.size))
  clear HB
  have HB := hid HBN.out
  clear HBN
  clear bb cE Ly Lz
  go_wp2_with fail
  refine (awake_any w14 (HMX.out.below HB.out)).mono ?_
  rintro e w15 ⟨rfl, bb⟩
  have HBN := hid (HB.out.trans (bb.mono HB.out.size))
  clear HB
  have HB := hid HBN.out
  clear HBN
  clear bb
  go_wp2_with fail
  go_ret
  exact ⟨rfl, HB.out⟩
set_option maxRecDepth 100000 in
set_option maxHeartbeats 8000000 in
theorem records_awake (l m : Items) (v0 v1 : Value) (s : ByteArray) (w : World) (hv0 : l.In w w.heap.size v0) (hm0 : l.may) (hr0 : l.room ≤ 11534336) (hv1 : m.In w w.heap.size v1) (hm1 : m.may) (hr1 : m.room ≤ 11534336) (hM : Max w) (hs : s.size ≤ 1048576)
    (hn : K.small l 2000 0 < 0 ∨ K.small m 2000 0 < 0 ∨ 110000 < s.size) :
    Calls Tryd.prog 6 #[v0, v1, .string s] w fun e w' => e = .returned (.bool true) ∧ Below w.heap.size w w' := by
  have cA := small_any (l.sz + 1) l (Nat.lt_succ_self _) v0 2000 0 w.heap.size w hv0 (by omega) hm0 (by decide) (by decide) (by decide) (by decide)
  have cB := small_any (m.sz + 1) m (Nat.lt_succ_self _) v1 2000 0 w.heap.size w hv1 (by omega) hm1 (by decide) (by decide) (by decide) (by decide)
  obtain ⟨a, ha⟩ : ∃ a, K.small l 2000 0 = a := ⟨_, rfl⟩
  obtain ⟨b, hb⟩ : ∃ b, K.small m 2000 0 = b := ⟨_, rfl⟩
  rw [ha] at cA hn
  rw [hb] at cB hn
  have cW := awake_any w hM
  clear ha hb hv0 hv1 hM
  by_cases ha : a < 0
  · have ta : decide (a < 0) = true := decide_eq_true ha
    clear cB hn
    go_enter Tryd.func6, Tryd.ntmps6
    go_wp2_with fail
    refine cA.mono ?_
    rintro e w0 ⟨rfl, hw0⟩
    have hw0x := hw0.out.symm
    subst hw0x
    clear hw0 cA
    go_wp2_with fail
    refine cW.mono ?_
    rintro e w1 ⟨rfl, bb⟩
    have HB := hid bb
    clear bb cW
    go_wp2_with fail
    go_ret
    exact ⟨rfl, HB.out⟩
  · have ta : decide (a < 0) = false := decide_eq_false ha
    by_cases hb : b < 0
    · have tb : decide (b < 0) = true := decide_eq_true hb
      clear hn
      go_enter Tryd.func6, Tryd.ntmps6
      go_wp2_with fail
      refine cA.mono ?_
      rintro e w0 ⟨rfl, hw0⟩
      have hw0x := hw0.out.symm
      subst hw0x
      clear hw0 cA
      go_wp2_with fail
      refine cB.mono ?_
      rintro e w0 ⟨rfl, hw0⟩
      have hw0x := hw0.out.symm
      subst hw0x
      clear hw0 cB
      go_wp2_with fail
      refine cW.mono ?_
      rintro e w1 ⟨rfl, bb⟩
      have HB := hid bb
      clear bb cW
      go_wp2_with fail
      go_ret
      exact ⟨rfl, HB.out⟩
    · have tb : decide (b < 0) = false := decide_eq_false hb
      have ts : decide ((110000 : Int) < (s.size : Int)) = true := decide_eq_true (by omega)
      clear hn
      go_enter Tryd.func6, Tryd.ntmps6
      go_wp2_with fail
      refine cA.mono ?_
      rintro e w0 ⟨rfl, hw0⟩
      have hw0x := hw0.out.symm
      subst hw0x
      clear hw0 cA
      go_wp2_with fail
      refine cB.mono ?_
      rintro e w0 ⟨rfl, hw0⟩
      have hw0x := hw0.out.symm
      subst hw0x
      clear hw0 cB
      go_wp2_with fail
      refine cW.mono ?_
      rintro e w1 ⟨rfl, bb⟩
      have HB := hid bb
      clear bb cW
      go_wp2_with fail
      go_ret
      exact ⟨rfl, HB.out⟩
theorem records_law (l : Items) (v0 : Value) (m : Items) (v1 : Value) (s : ByteArray) (w : World) (hv0 : l.In w w.heap.size v0) (hm0 : l.may) (hr0 : l.room ≤ 11534336) (hv1 : m.In w w.heap.size v1) (hm1 : m.may) (hr1 : m.room ≤ 11534336) (_ : s.size ≤ 140737488351232) (hM : Max w) (hs : s.size ≤ 1048576) :
    Calls Tryd.prog 6 #[v0, v1, .string s] w fun e w' => e = .returned (.bool true) ∧ Below w.heap.size w w' := by
  by_cases h : K.small l 2000 0 < 0 ∨ K.small m 2000 0 < 0 ∨ 110000 < s.size
  · exact records_awake l m v0 v1 s w hv0 hm0 hr0 hv1 hm1 hr1 hM hs h
  · exact records_main l m v0 v1 s w hv0 hm0 hr0 hv1 hm1 hr1 hM (by omega) (by omega) (by omega)
end Go.Proofs.YtfadnhihcobclaaDoor
