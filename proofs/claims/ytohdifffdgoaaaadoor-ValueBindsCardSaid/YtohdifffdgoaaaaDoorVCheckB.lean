/- The walk of value.CheckBinds. -/
import Derived.Test.YtohdifffdgoaaaaDoorVBinds
import Derived.Test.YtohdifffdgoaaaaDoorVNums
import Derived.Maps.Own
import Derived.Maps.OwnOps
import Derived.Maps.OwnSet
import Derived.Maps.Views
import Derived.Carry
namespace Go.Proofs.YtohdifffdgoaaaaDoor
open Go.RowKit Go.Maps
open Go.Lib (hid)
open V
namespace V
/-- the names that were seen, as a map -/
def seenD (l : List (List UInt8)) : DataW Unit := l.foldl (fun D x => D.put (.string x) (.lit (.bool true))) (.map [])
theorem seenD_snoc (l : List (List UInt8)) (x : List UInt8) : seenD (l ++ [x]) = (seenD l).put (.string x) (.lit (.bool true)) := by simp [seenD]
theorem seen_at (x : List UInt8) : ∀ (l : List (List UInt8)) (D : DataW Unit), IsMap D → (l.foldl (fun D x => D.put (.string x) (.lit (.bool true))) D).atKey (.string x) (.lit (.bool false)) = if x ∈ l then .lit (.bool true) else D.atKey (.string x) (.lit (.bool false))
  | [], D, _ => by simp
  | y :: l, D, hD => by
    rw [List.foldl_cons, seen_at x l _ (hD.put _ _)]
    by_cases h : x ∈ l
    · rw [if_pos h, if_pos (by simp [h])]
    · rw [if_neg h]
      by_cases e : x = y
      · subst e
        rw [if_pos (by simp), atKey_put_same hD (by first | trivial | exact ⟨_, rfl⟩ | simp)]
      · rw [if_neg (by simp [h, e]), atKey_put_other (by simpa using e)]
theorem seenD_at (l : List (List UInt8)) (x : List UInt8) : (seenD l).atKey (.string x) (.lit (.bool false)) = .lit (.bool (decide (x ∈ l))) := by
  unfold seenD
  rw [seen_at x l _ ⟨_, rfl⟩]
  by_cases h : x ∈ l
  · simp [h]
  · rw [if_neg h, decide_eq_false h]; rfl
end V
theorem law : Keyed Tryd.prog 9 := string_keyed Tryd.underlying9
theorem zeroBool (w : World) : (zeroValue 4).run Tryd.prog w = .ok (.bool false) w := by kernel_rfl
theorem plainBool_inv {v : Value} {q : Bool} {ps : List MemPlace} (h : plainElem (H := Unit) Tryd.prog 4 v = some (.lit (.bool q), ps)) : v = .bool q := by
  cases v <;> simp [plainElem, Tryd.underlying4] at h
  rw [h.1]
theorem map_below {P : Program} {k : TypeId} {R : Value → Option (DataW Unit × List MemPlace)} {b n : Nat} {D : DataW Unit} {w w' : World} (h : w.ownsMap P k R b n D) (hb : Below w.heap.size w w') : w'.ownsMap P k R b n D :=
  h.kept (row := none) ⟨hb.os, hb.tape, hb.output, hb.size, fun k hk _ => hb.block k hk⟩ (by simp)
theorem row5B {w : World} {b : Nat} {x y z u v : Value} {t : TypeId} (h : w.heap[b]? = some (.cells #[x, y, z, u, v] t (0, 0))) :
    w.cell? ⟨b, 0, none⟩ = some x ∧ w.cell? ⟨b, 1, none⟩ = some y ∧ w.cell? ⟨b, 2, none⟩ = some z ∧ w.cell? ⟨b, 3, none⟩ = some u ∧ w.cell? ⟨b, 4, none⟩ = some v := ⟨rowCell h 0, rowCell h 1, rowCell h 2, rowCell h 3, rowCell h 4⟩
set_option maxRecDepth 100000 in
set_option maxHeartbeats 4000000 in
theorem checkBinds_any (bs : List Bind) (sv : Value) (w : World) (hin : BIn w bs sv) (hT : Tabs w) (hlen : bs.length ≤ 10000000000000) (hsz : ∀ b ∈ bs, b.name.size ≤ 9223372036854775807) :
    Calls Tryd.prog 27 #[sv] w fun e w' => e = .returned (.int .i64 (checkB bs)) ∧ Below w.heap.size w w' := by
  obtain ⟨n, hn⟩ : ∃ n, bs.length = n := ⟨_, rfl⟩
  obtain ⟨xa, c, hsv⟩ := hin.shape
  rw [hn] at hsv hlen
  subst hsv
  have HIN := hid hin
  have HN := hid hn
  have HT := hid hT
  have HSZ := hid hsz
  clear hin hn hT hsz
  have hmm := @run_makeMap Tryd.prog
  go_enter Tryd.func27, Tryd.ntmps27
  go_wp2_with fail
  go_loopw [9] (fun i wr => ∃ (k : Nat), k ≤ n ∧ i = .int .i64 k ∧ Hid (Below w.heap.size w wr) ∧ Hid (wr.ownsMap Tryd.prog 9 (plainElem Tryd.prog 4) w.heap.size k (seenD ((bs.take k).map Bind.nm))) ∧ Hid (checkB bs = checkFrom ((bs.take k).map Bind.nm) (bs.drop k))) (fun i _ => n - (intOf i).toNat)
  case atStart => exact ⟨0, by omega, rfl, (Below.refl _ _).alloc (Nat.le_refl _) _, World.ownsMap_made _ _ _ _, rfl⟩
  case round =>
    obtain ⟨k, hk, rfl, hb, hm, hI⟩ := hrel
    by_cases hlt : k < n
    · have hl0 : decide ((k : Int) < (n : Int)) = true := by simp; omega
      have hkp : k < bs.length := by have := HN.out; omega
      obtain ⟨b, o, c2, hsv, hbl, c0, c1, c2, c3, c4⟩ := HIN.out.cells hkp
      rw [HN.out] at hsv
      simp only [Value.slice.injEq, true_and] at hsv
      obtain ⟨rfl, rfl⟩ := hsv
      rw [← hb.out.cell (p := ⟨b, _, none⟩) hbl] at c0 c1 c2 c3 c4
      have hk0 : (0 : Int) ≤ (k : Int) := by omega
      have hk1 : (k : Int) < (n : Int) := by omega
      have hwr := hb.out.size
      have hmem : bs[k] ∈ bs := List.getElem_mem _
      have hnz := HSZ.out _ hmem
      have hst : bs.drop k = bs[k] :: bs.drop (k + 1) := List.drop_eq_getElem_cons hkp
      have htk : (bs.take (k + 1)).map Bind.nm = (bs.take k).map Bind.nm ++ [bs[k].nm] := by rw [List.take_succ_eq_append_getElem hkp, List.map_append]; rfl
      obtain ⟨p, hp⟩ : ∃ p, bs[k] = p := ⟨_, rfl⟩
      rw [hp] at c0 c1 c2 c3 c4 hnz hst htk
      have hIk := hI.out
      rw [hst, checkFrom] at hIk
      have HI := hid hIk
      have HTK := hid htk
      clear hmm hp hmem hst hIk hI htk hkp
      obtain ⟨nm, kk, nn, bb, ss⟩ := p
      simp only at c0 c1 c2 c3 c4 hnz
      obtain ⟨seen, hseen⟩ : ∃ l, (bs.take k).map Bind.nm = l := ⟨_, rfl⟩
      rw [hseen] at HI hm HTK
      clear hseen
      have cN := name_any nm (wr.alloc (.cells #[.string nm, .int .u8 kk, .int .i64 nn, .bool bb, .string ss] 43)) hnz
      have HB1 := hid (hb.out.alloc hwr (.cells #[.string nm, .int .u8 kk, .int .i64 nn, .bool bb, .string ss] 43))
      have HM1 := hid (hm.out.alloc (.cells #[.string nm, .int .u8 kk, .int .i64 nn, .bool bb, .string ss] 43))
      have hg := heap_alloc_new wr (.cells #[.string nm, .int .u8 kk, .int .i64 nn, .bool bb, .string ss] 43)
      have HG := hid hg
      have hs1 : wr.heap.size < (wr.alloc (.cells #[.string nm, .int .u8 kk, .int .i64 nn, .bool bb, .string ss] 43)).heap.size := by simp
      clear hb hm hg
      cases hq : W.nameB nm.data.toList
      · have HE : Hid (checkB bs = 1) := by
          show _ = _
          rw [HI.out]; simp [Bind.fine, Bind.nm, hq]
        rw [hq] at cN
        clear hq HI HTK
        go_wp2_with fail
        refine cN.mono ?_
        rintro e w1 ⟨rfl, b1⟩
        have HB2 := hid (HB1.out.trans (b1.mono (by simp; omega)))
        clear b1 cN
        go_wp2_with fail
        go_ret
        exact ⟨ret_i (a := 1) HE.out.symm, HB2.out⟩
      · rw [hq] at cN
        cases hok : ok ⟨kk, nn, bb, ss⟩
        · have HE : Hid (checkB bs = 1) := by
            show _ = _
            rw [HI.out]; simp [Bind.fine, hok]
          have cC := fun X (hX : Tabs X) => check_any kk nn bb ss X hX
          rw [show okE ⟨kk, nn, bb, ss⟩ = 1 by simp [okE, hok]] at cC
          clear hq hok HI HTK
          go_wp2_with fail
          refine cN.mono ?_
          rintro e w1 ⟨rfl, b1⟩
          have hg := (b1.block wr.heap.size hs1).trans HG.out
          obtain ⟨x0, x1, x2, x3, x4⟩ := row5B hg
          have HB2 := hid (HB1.out.trans (b1.mono (by simp; omega)))
          clear b1 cN hg
          go_wp2_with fail
          refine (cC _ (Utf8Tabs_below HT.out HB2.out)).mono ?_
          rintro e w2 ⟨rfl, b2⟩
          have HB3 := hid (HB2.out.trans (b2.mono HB2.out.size))
          clear b2 cC
          go_wp2_with fail
          go_ret
          exact ⟨ret_i (a := 1) HE.out.symm, HB3.out⟩
        · have hfine : Bind.fine ⟨nm, ⟨kk, nn, bb, ss⟩⟩ = true := by simp [Bind.fine, Bind.nm, hq, hok]
          have cC := fun X (hX : Tabs X) => check_any kk nn bb ss X hX
          rw [show okE ⟨kk, nn, bb, ss⟩ = 0 by simp [okE, hok]] at cC
          have hI2 := HI.out
          rw [if_neg (by simp [hfine])] at hI2
          clear hq hok HI hfine
          have hkey : keyOf Tryd.prog 9 (.string nm) = some (.string nm.data.toList) := Go.WideMaps.keyOf_string_mk Tryd.underlying9 (by unfold maxLen; omega)
          have hat := seenD_at seen nm.data.toList
          obtain ⟨q, hq⟩ : ∃ q, decide (nm.data.toList ∈ seen) = q := ⟨_, rfl⟩
          rw [hq] at hat
          have HQ := hid hq
          have HI2 := hid hI2
          have HAT := hid hat
          have HKEY := hid hkey
          clear hq hat hI2 hkey
          go_wp2_with fail
          refine cN.mono ?_
          rintro e w1 ⟨rfl, b1⟩
          have hg := (b1.block wr.heap.size hs1).trans HG.out
          obtain ⟨x0, x1, x2, x3, x4⟩ := row5B hg
          have HG2 := hid hg
          have HM2 := hid (map_below HM1.out b1)
          have HB2 := hid (HB1.out.trans (b1.mono (by simp; omega)))
          have hs2 : wr.heap.size < w1.heap.size := Nat.lt_of_lt_of_le hs1 b1.size
          clear b1 cN hg HM1 HG hs1
          go_wp2_with fail
          refine (cC _ (Utf8Tabs_below HT.out HB2.out)).mono ?_
          rintro e w2 ⟨rfl, b2⟩
          have hg := (b2.block wr.heap.size hs2).trans HG2.out
          have HM3 := hid (map_below HM2.out b2)
          have HB3 := hid (HB2.out.trans (b2.mono HB2.out.size))
          have HG3 := hid hg
          clear b2 cC HM2 HG2 x0 x1 x2 x3 x4 HB2
          obtain ⟨x0, x1, x2, x3, x4⟩ := row5B hg
          clear hg
          have hlook : (Instr.lookup 82 (.map (some w.heap.size)) (.string nm) false).run Tryd.prog w2 = .ok (.bool q) w2 := by
            obtain ⟨v, ps, h1, h2⟩ := HM3.out.lookup law Tryd.underlying82 (zeroBool w2) (plainElem_bool Tryd.underlying4 false) HKEY.out
            rw [HAT.out] at h2
            rw [plainBool_inv h2] at h1
            exact h1
          cases q
          · obtain ⟨w3, hput, hown3, hturn⟩ := HM3.out.store law Tryd.underlying82 (by unfold maxLen; omega) HKEY.out (plainElem_bool (H := Unit) Tryd.underlying4 true)
            have HM4 : Hid (w3.ownsMap Tryd.prog 9 (plainElem Tryd.prog 4) w.heap.size (k + 1) (seenD ((bs.take (k + 1)).map Bind.nm))) := by
              show World.ownsMap _ _ _ _ _ _ _
              rw [HTK.out, seenD_snoc]; exact hown3
            have HB4 := hid (HB3.out.grown hturn.grown HB3.out.size (fun q hq => by simp at hq; omega))
            have HI3 : Hid (checkB bs = checkFrom ((bs.take (k + 1)).map Bind.nm) (bs.drop (k + 1))) := by
              show _ = _
              rw [HTK.out, HI2.out, if_neg (show ¬ Bind.nm ⟨nm, ⟨kk, nn, bb, ss⟩⟩ ∈ seen from of_decide_eq_false HQ.out)]
            clear hown3 hturn HI2 HQ HAT HKEY HTK
            go_wp2_with fail
            go_roundw
            case rel => exact ⟨k + 1, by omega, by go_num, HB4, HM4, HI3⟩
            case measure => simp [intOf]; omega
          · have HE : Hid (checkB bs = 6) := by
              show _ = _
              rw [HI2.out, if_pos (show Bind.nm ⟨nm, ⟨kk, nn, bb, ss⟩⟩ ∈ seen from of_decide_eq_true HQ.out)]
            clear HI2 HQ HAT HKEY HTK HM3
            go_wp2_with fail
            go_ret
            exact ⟨ret_i (a := 6) HE.out.symm, HB3.out⟩
    · have hl0 : decide ((k : Int) < (n : Int)) = false := by simp; omega
      have hE : checkB bs = 0 := by
        rw [hI.out, List.drop_of_length_le (by have := HN.out; omega)]; rfl
      have HE := hid hE
      clear hE hI hm hmm
      go_wp2_with fail
      go_ret
      exact ⟨ret_i (a := 0) HE.out.symm, hb.out⟩
end Go.Proofs.YtohdifffdgoaaaaDoor
