/- The walk of the law WordMore. -/
import Derived.Test.YtkahibnanhhdeaaDoorLPlainW
import Derived.Test.YtkahibnanhhdeaaDoorWRefQ
import Derived.Deep.QuietTactic
import Derived.BigQuiet
import Derived.Deep.RegionWith
namespace Go.Proofs.YtkahibnanhhdeaaDoor
open Go.RowKit
open Go.Lib (hid)

theorem name_at (s : ByteArray) (b : Bool) (hs : s.size ≤ 9223372036854775807) (h : W.nameB s.data.toList = b) (X : World) :
    Calls Tryd.prog 13 #[.string s] X fun e w' => e = .returned (.bool b) ∧ Below X.heap.size X w' := by
  have := name_any s X hs
  rwa [h] at this

set_option maxRecDepth 100000 in
set_option maxHeartbeats 4000000 in
theorem more_no (s : ByteArray) (c : UInt8) (cut : Int) (w : World) (hs : s.size ≤ 140737488351232) (hA : All w) (hN : W.nameB s.data.toList = false) :
    Calls Tryd.prog 12 #[.string s, .int .u8 c.toNat, .int .i64 cut] w fun e w' => e = .returned (.bool true) ∧ Below w.heap.size w w' := by
  have c0 := works_any w hA
  have c1 := name_at s false (by omega) hN
  by_cases h0 : s.size = 0
  · have q0 : ((s.size : Int) == 0) = true := by rw [h0]; rfl
    clear hN
    go_enter Tryd.func12, Tryd.ntmps12
    go_wp2_with fail
    refine c0.mono ?_
    rintro e w0 ⟨rfl, b0⟩
    go_wp2_with fail
    refine (c1 _).mono ?_
    rintro e w1 ⟨rfl, b1⟩
    have b01 := b0.trans (b1.mono b0.size)
    clear b1 b0
    go_wp2_with fail
    go_ret
    exact ⟨rfl, b01⟩
  · have q0 : ((s.size : Int) == 0) = false := beq_eq_false_iff_ne.2 (by omega)
    by_cases h32 : 32 < s.size
    · have q1 : decide ((32 : Int) < (s.size : Int)) = true := by simp; omega
      clear hN
      go_enter Tryd.func12, Tryd.ntmps12
      go_wp2_with fail
      refine c0.mono ?_
      rintro e w0 ⟨rfl, b0⟩
      go_wp2_with fail
      refine (c1 _).mono ?_
      rintro e w1 ⟨rfl, b1⟩
      have b01 := b0.trans (b1.mono b0.size)
      clear b1 b0
      go_wp2_with fail
      go_ret
      exact ⟨rfl, b01⟩
    · have q1 : decide ((32 : Int) < (s.size : Int)) = false := by simp; omega
      have e0 : s.data.toList = s[0] :: s.data.toList.drop 1 := by have := W.drop_cons s 0 (by omega); simpa using this
      have hl : s.data.toList.length = s.size := rfl
      have hor := W.name_none s[0] (s.data.toList.drop 1) (by rw [← e0]; exact hN) (by rw [← e0]; omega)
      have x1 : (s.extract 1 s.size).data.toList = s.data.toList.drop 1 := W.extract_from s 1
      have x2 : (s.extract 0 1).data.toList = [s[0]] := by rw [W.extract_cut, List.drop_zero]; show s.data.toList.take 1 = _; rw [e0]; rfl
      have hsl1 : ∀ X : World, (Instr.slice 9 (.string s) (some (.int .i64 1)) none none).run Tryd.prog X = .ok (.string (s.extract 1 s.size)) X := by
        intro X
        exact run_slice_string_l (P := Tryd.prog) (w := X) (s := s) (t := 9) Tryd.underlying9 .i64 1 (by omega) (by omega)
      have hsl2 : ∀ X : World, (Instr.slice 9 (.string s) none (some (.int .i64 1)) none).run Tryd.prog X = .ok (.string (s.extract 0 1)) X := by
        intro X
        exact run_slice_string_h (P := Tryd.prog) (w := X) (s := s) (t := 9) Tryd.underlying9 .i64 1 (by omega) (by omega)
      obtain ⟨p1, hp1⟩ : ∃ p1, s.extract 1 s.size = p1 := ⟨_, rfl⟩
      obtain ⟨p2, hp2⟩ : ∃ p2, s.extract 0 1 = p2 := ⟨_, rfl⟩
      rw [hp1] at x1 hsl1
      rw [hp2] at x2 hsl2
      obtain ⟨q, hq⟩ : ∃ q : ByteArray, (⟨(97 :: p1.data.toList).toArray⟩ : ByteArray) = q := ⟨_, rfl⟩
      have hql : q.data.toList = 97 :: s.data.toList.drop 1 := by rw [← hq, ← x1]
      have hps : p1.size ≤ 32 := by
        have := congrArg List.length x1
        rw [List.length_drop] at this
        have e : p1.data.toList.length = p1.size := rfl
        omega
      have hp2s : p2.size = 1 := by
        have := congrArg List.length x2
        exact this
      have hqs : q.size ≤ 33 := by
        have := congrArg List.length hql
        rw [List.length_cons, ← x1] at this
        have e : p1.data.toList.length = p1.size := rfl
        have e2 : q.data.toList.length = q.size := rfl
        omega
      have hcat : ∀ X : World, (Op.stringOp .add (⟨#[97]⟩ : ByteArray) p1).run Tryd.prog X = .ok (.string q) X := by
        intro X
        have e : p1.data.toList.length = p1.size := rfl
        have := run_string_add_lists (P := Tryd.prog) X [97] p1.data.toList (by simp) (by simp; omega)
        rw [show [(97 : UInt8)] ++ p1.data.toList = 97 :: p1.data.toList from rfl, hq] at this
        exact this
      obtain ⟨n1, hn1⟩ : ∃ n1, W.nameB (97 :: s.data.toList.drop 1) = n1 := ⟨_, rfl⟩
      obtain ⟨n2, hn2⟩ : ∃ n2, W.nameB [s[0]] = n2 := ⟨_, rfl⟩
      have c2 := name_at q n1 (by omega) (by rw [hql, hn1])
      have c3 := name_at p2 n2 (by omega) (by rw [x2, hn2])
      rw [hn1, hn2] at hor
      have HOR := hid hor
      clear hN e0 x1 x2 hn1 hn2 hor hq hql hl hp1 hp2
      go_enter Tryd.func12, Tryd.ntmps12
      go_wp2_with fail
      refine c0.mono ?_
      rintro e w0 ⟨rfl, b0⟩
      go_wp2_with fail
      refine (c1 _).mono ?_
      rintro e w1 ⟨rfl, b1⟩
      have b01 := b0.trans (b1.mono b0.size)
      clear b1 b0
      go_wp2_with fail
      refine (c2 _).mono ?_
      rintro e w2 ⟨rfl, b2⟩
      have b02 := b01.trans (b2.mono b01.size)
      clear b2 b01
      cases n1
      · go_wp2_with fail
        go_ret
        exact ⟨rfl, b02⟩
      · cases n2
        · go_wp2_with fail
          refine (c3 _).mono ?_
          rintro e w3 ⟨rfl, b3⟩
          have b03 := b02.trans (b3.mono b02.size)
          clear b3 b02
          go_wp2_with fail
          go_ret
          exact ⟨rfl, b03⟩
        · exact absurd HOR.out (by decide)

set_option maxRecDepth 100000 in
set_option maxHeartbeats 4000000 in
theorem more_yes (s : ByteArray) (c : UInt8) (cut : Int) (w : World) (hA : All w) (hN : W.nameB s.data.toList = true) :
    Calls Tryd.prog 12 #[.string s, .int .u8 c.toNat, .int .i64 cut] w fun e w' => e = .returned (.bool true) ∧ Below w.heap.size w w' := by
  have c0 := works_any w hA
  have hsl := ((W.name_iff _).1 hN).1
  have hl : s.data.toList.length = s.size := rfl
  rw [hl] at hsl
  obtain ⟨hs1, hs2⟩ := hsl
  have c1 := name_at s true (by omega) hN
  obtain ⟨k, hkl, hk⟩ := place_at cut s.size (by omega) (by omega)
  -- twice
  obtain ⟨s2, hs2'⟩ : ∃ q : ByteArray, (⟨(s.data.toList ++ s.data.toList).toArray⟩ : ByteArray) = q := ⟨_, rfl⟩
  have hs2l : s2.data.toList = s.data.toList ++ s.data.toList := by rw [← hs2']
  have hs2s : s2.size ≤ 64 := by
    have := congrArg List.length hs2l
    rw [List.length_append] at this
    have e : s2.data.toList.length = s2.size := rfl
    omega
  obtain ⟨d, hd⟩ : ∃ d, decide (2 * s.size ≤ 32) = d := ⟨_, rfl⟩
  have c2 := name_at s2 d (by omega) (by rw [hs2l, W.name_twice _ hN, hl, hd])
  have hcat2 : ∀ X : World, (Op.stringOp .add s s).run Tryd.prog X = .ok (.string s2) X := by
    intro X
    have := run_string_add_lists (P := Tryd.prog) X s.data.toList s.data.toList (by omega) (by omega)
    rw [hs2'] at this
    exact this
  have hdd : decide (2 * (s.size : Int) ≤ 32) = d := by
    rw [← hd, decide_eq_decide]; omega
  -- its beginning
  have hslp : ∀ X : World, (Instr.slice 9 (.string s) none (some (.int .i64 ((k : Int) + 1))) none).run Tryd.prog X = .ok (.string (s.extract 0 (k + 1))) X := by
    intro X
    have := run_slice_string_h (P := Tryd.prog) (w := X) (s := s) (t := 9) Tryd.underlying9 .i64 ((k : Int) + 1) (by omega) (by omega)
    rw [show ((k : Int) + 1).toNat = k + 1 by omega] at this
    exact this
  have hslr : ∀ X : World, (Instr.slice 9 (.string s) (some (.int .i64 ((k : Int) + 1))) none none).run Tryd.prog X = .ok (.string (s.extract (k + 1) s.size)) X := by
    intro X
    have := run_slice_string_l (P := Tryd.prog) (w := X) (s := s) (t := 9) Tryd.underlying9 .i64 ((k : Int) + 1) (by omega) (by omega)
    rw [show ((k : Int) + 1).toNat = k + 1 by omega] at this
    exact this
  have x1 : (s.extract 0 (k + 1)).data.toList = s.data.toList.take (k + 1) := by rw [W.extract_cut]; rfl
  have x2 : (s.extract (k + 1) s.size).data.toList = s.data.toList.drop (k + 1) := W.extract_from s (k + 1)
  obtain ⟨p, hp⟩ : ∃ p, s.extract 0 (k + 1) = p := ⟨_, rfl⟩
  obtain ⟨r, hr⟩ : ∃ r, s.extract (k + 1) s.size = r := ⟨_, rfl⟩
  rw [hp] at x1 hslp
  rw [hr] at x2 hslr
  have hps : p.size = k + 1 := by
    have := congrArg List.length x1
    rw [List.length_take] at this
    have e : p.data.toList.length = p.size := rfl
    omega
  have hrs : r.size = s.size - (k + 1) := by
    have := congrArg List.length x2
    rw [List.length_drop] at this
    exact this
  have c3 := name_at p true (by omega) (by rw [x1]; exact W.name_take _ k hN (by omega))
  -- with the byte
  obtain ⟨pc, hpc⟩ : ∃ q : ByteArray, (⟨(p.data.toList ++ [c]).toArray⟩ : ByteArray) = q := ⟨_, rfl⟩
  have hpcl : pc.data.toList = p.data.toList ++ [c] := by rw [← hpc]
  have hpcs : pc.size = p.size + 1 := by
    have := congrArg List.length hpcl
    rw [List.length_append] at this
    exact this
  obtain ⟨t, ht⟩ : ∃ q : ByteArray, (⟨(pc.data.toList ++ r.data.toList).toArray⟩ : ByteArray) = q := ⟨_, rfl⟩
  have htl : t.data.toList = pc.data.toList ++ r.data.toList := by rw [← ht]
  have hts : t.size = s.size + 1 := by
    have := congrArg List.length htl
    rw [List.length_append] at this
    have e : pc.data.toList.length = pc.size := rfl
    have e2 : r.data.toList.length = r.size := rfl
    have e3 : t.data.toList.length = t.size := rfl
    omega
  have hcat3 : ∀ X : World, (Op.stringOp .add p ⟨#[c]⟩).run Tryd.prog X = .ok (.string pc) X := by
    intro X
    have e : p.data.toList.length = p.size := rfl
    have := run_string_add_lists (P := Tryd.prog) X p.data.toList [c] (by omega) (by simp only [List.length_cons, List.length_nil]; omega)
    rw [hpc] at this
    exact this
  have hcat4 : ∀ X : World, (Op.stringOp .add pc r).run Tryd.prog X = .ok (.string t) X := by
    intro X
    have e : pc.data.toList.length = pc.size := rfl
    have e2 : r.data.toList.length = r.size := rfl
    have := run_string_add_lists (P := Tryd.prog) X pc.data.toList r.data.toList (by omega) (by omega)
    rw [ht] at this
    exact this
  have hcat5 : ∀ X : World, (Op.stringOp .add (⟨#[97]⟩ : ByteArray) ⟨#[c]⟩).run Tryd.prog X = .ok (.string ⟨#[97, c]⟩) X := fun X => run_string_add_lists (P := Tryd.prog) X [97] [c] (by simp) (by simp)
  obtain ⟨y, hy⟩ : ∃ y, W.stands 1 c.toNat = y := ⟨_, rfl⟩
  have hNt : W.nameB t.data.toList = (decide (s.size + 1 ≤ 32) && y) := by
    rw [htl, hpcl, x1, x2, W.name_put _ c k hN (by omega), hl, hy]
  have c5 := name_at ⟨#[97, c]⟩ y (by show 2 ≤ _; omega) (by rw [← hy]; exact W.name_two c)
  have hcv := fun X => conv_new X [(c.toNat : Int)] 1 rfl
  simp only [List.map_cons, List.map_nil, Int.toNat_natCast, UInt8.ofNat_toNat] at hcv
  have hb := c.toNat_lt
  clear hy
  by_cases h32 : s.size + 1 ≤ 32
  · rw [decide_eq_true h32, Bool.true_and] at hNt
    have c4 := name_at t y (by omega) hNt
    have q1 : decide ((32 : Int) < (t.size : Int)) = false := by simp; omega
    clear hN hl hs2' hs2l hd x1 x2 hp hr hpc hpcl ht htl hNt hs2s
    go_enter Tryd.func12, Tryd.ntmps12
    go_wp2_with fail
    refine c0.mono ?_
    rintro e w0 ⟨rfl, b0⟩
    go_wp2_with fail
    refine (c1 _).mono ?_
    rintro e w1 ⟨rfl, b1⟩
    have b01 := b0.trans (b1.mono b0.size)
    clear b1 b0
    go_wp2_with fail
    refine (c2 _).mono ?_
    rintro e w2 ⟨rfl, b2⟩
    have b02 := b01.trans (b2.mono b01.size)
    clear b2 b01
    go_wp2_with fail
    refine (c3 _).mono ?_
    rintro e w3 ⟨rfl, b3⟩
    have b03 := b02.trans (b3.mono b02.size)
    clear b3 b02
    have hcv3 := Row.conv (World.ownsRow.drew (Row.new w3 c))
    have hw1 : wrap64 ((k : Int) + 1) = (k : Int) + 1 := by unfold wrap64; omega
    have hw2 : IntKind.i64.wrap ((k : Int) + 1) = (k : Int) + 1 := by rw [IntKind.wrap_i64]; omega
    go_upto_region 8 with fail
    go_region_with (fail)
    have b04 := (b03.alloc b03.size (.cells #[.int .u8 c.toNat] 5)).drew
    clear hcv3 b03 c0 c1 c2 c3 hcat2 hcat3 hcat4 hslp hslr
    generalize (w3.alloc (.cells #[.int .u8 c.toNat] 5)).drew = w4 at *
    go_upto_region 11 with fail
    clear hdd hps hrs hts q1 hw1 hw2 hk hkl hb h32 hcv hs1 hs2 hA hpcs
    have hcx0 := Row.conv (World.ownsRow.drew (Row.new w4 c))
    have bx := (b04.alloc b04.size (.cells #[.int .u8 c.toNat] 5)).drew
    have cA : Calls Tryd.prog 13 #[.string t] w4.drew fun e w' => e = .returned (.bool y) ∧ Below w.heap.size w w' ∧ (convert 42 9 (.slice (some ⟨w'.heap.size, 0, none⟩) 1 1)).run Tryd.prog (w'.alloc (.cells #[.int .u8 c.toNat] 5)) = .ok (.string ⟨#[c]⟩) (w'.alloc (.cells #[.int .u8 c.toNat] 5)) := by
      refine (c4 w4.drew).mono ?_
      rintro e w5 ⟨rfl, b5⟩
      exact ⟨rfl, b04.drew.trans (b5.mono b04.drew.size), Row.conv (Row.new w5 c)⟩
    have cB : Calls Tryd.prog 13 #[.string t] (w4.alloc (.cells #[.int .u8 c.toNat] 5)).drew fun e w' => e = .returned (.bool y) ∧ Below w.heap.size w w' ∧ (convert 42 9 (.slice (some ⟨w4.heap.size, 0, none⟩) 1 1)).run Tryd.prog w' = .ok (.string ⟨#[c]⟩) w' := by
      refine (c4 (w4.alloc (.cells #[.int .u8 c.toNat] 5)).drew).mono ?_
      rintro e w5 ⟨rfl, b5⟩
      exact ⟨rfl, bx.trans (b5.mono bx.size), Row.conv (Row.below (World.ownsRow.drew (Row.new w4 c)) b5)⟩
    have c5A : ∀ w5 : World, Below w.heap.size w w5 → Calls Tryd.prog 13 #[.string ⟨#[97, c]⟩] (w5.alloc (.cells #[.int .u8 c.toNat] 5)) fun e w' => e = .returned (.bool y) ∧ Below w.heap.size w w' := by
      intro w5 b05
      refine (c5 _).mono ?_
      rintro e w6 ⟨rfl, b6⟩
      have b := b05.alloc b05.size (.cells #[.int .u8 c.toNat] 5)
      exact ⟨rfl, b.trans (b6.mono b.size)⟩
    have c5B : ∀ w5 : World, Below w.heap.size w w5 → Calls Tryd.prog 13 #[.string ⟨#[97, c]⟩] w5 fun e w' => e = .returned (.bool y) ∧ Below w.heap.size w w' := by
      intro w5 b05
      refine (c5 _).mono ?_
      rintro e w6 ⟨rfl, b6⟩
      exact ⟨rfl, b05.trans (b6.mono b05.size)⟩
    clear c4 c5 bx b04
    go_region_with (
      go_at_call 13
      first
        | (with_reducible refine cA.mono ?_
           rintro e w5 ⟨rfl, b05, hcx⟩)
        | (with_reducible refine cB.mono ?_
           rintro e w5 ⟨rfl, b05, hcx⟩)
        | (with_reducible refine (c5A _ b05).mono ?_
           rintro e w6 ⟨rfl, b06⟩)
        | (with_reducible refine (c5B _ b05).mono ?_
           rintro e w6 ⟨rfl, b06⟩))
    all_goals
      go_wp2_with fail
      go_ret
      exact ⟨by clear cA cB c5A c5B hcx0 hcat5; cases y <;> rfl, b06⟩
  · rw [decide_eq_false h32, Bool.false_and] at hNt
    have c4 := name_at t false (by omega) hNt
    have q1 : decide ((32 : Int) < (t.size : Int)) = true := by simp; omega
    clear hN hl hs2' hs2l hd x1 x2 hp hr hpc hpcl ht htl hNt hs2s c5 hcat5
    go_enter Tryd.func12, Tryd.ntmps12
    go_wp2_with fail
    refine c0.mono ?_
    rintro e w0 ⟨rfl, b0⟩
    go_wp2_with fail
    refine (c1 _).mono ?_
    rintro e w1 ⟨rfl, b1⟩
    have b01 := b0.trans (b1.mono b0.size)
    clear b1 b0
    go_wp2_with fail
    refine (c2 _).mono ?_
    rintro e w2 ⟨rfl, b2⟩
    have b02 := b01.trans (b2.mono b01.size)
    clear b2 b01
    go_wp2_with fail
    refine (c3 _).mono ?_
    rintro e w3 ⟨rfl, b3⟩
    have b03 := b02.trans (b3.mono b02.size)
    clear b3 b02
    have hcv3 := Row.conv (World.ownsRow.drew (Row.new w3 c))
    have hw1 : wrap64 ((k : Int) + 1) = (k : Int) + 1 := by unfold wrap64; omega
    have hw2 : IntKind.i64.wrap ((k : Int) + 1) = (k : Int) + 1 := by rw [IntKind.wrap_i64]; omega
    go_upto_region 8 with fail
    go_region_with (fail)
    have b04 := (b03.alloc b03.size (.cells #[.int .u8 c.toNat] 5)).drew
    clear hcv3 b03 c0 c1 c2 c3 hcat2 hcat3 hcat4 hslp hslr
    generalize (w3.alloc (.cells #[.int .u8 c.toNat] 5)).drew = w4 at *
    go_wp2_with fail
    refine (c4 _).mono ?_
    rintro e w5 ⟨rfl, b5⟩
    have b05 := b04.trans (b5.mono b04.size)
    clear b5 b04
    go_wp2_with fail
    go_ret
    exact ⟨rfl, b05⟩

theorem more_walk (s : ByteArray) (c cut : Int) (w : World) (hs : s.size ≤ 140737488351232) (hc : 0 ≤ c ∧ c ≤ 255) (_ : -9223372036854775808 ≤ cut ∧ cut ≤ 9223372036854775807) (hA : All w) :
    Calls Tryd.prog 12 #[.string s, .int .u8 c, .int .i64 cut] w fun e w' => e = .returned (.bool true) ∧ Below w.heap.size w w' := by
  obtain ⟨n, rfl⟩ := Int.eq_ofNat_of_zero_le hc.1
  have hn : ((UInt8.ofNat n).toNat : Int) = (n : Int) := by
    have : (UInt8.ofNat n).toNat = n := by simp; omega
    rw [this]
  cases hN : W.nameB s.data.toList with
  | false => have := more_no s (UInt8.ofNat n) cut w hs hA hN; rwa [hn] at this
  | true => have := more_yes s (UInt8.ofNat n) cut w hA hN; rwa [hn] at this
end Go.Proofs.YtkahibnanhhdeaaDoor
