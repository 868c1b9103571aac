/- The walk of key.Decode. -/
import Derived.Test.YtfadnhihcobclaaDoorKDec3
import Derived.Laws.EntriesVeiled
namespace Go.Proofs.YtfadnhihcobclaaDoor
open Go.RowKit
open Go.Lib (hid)
open K
namespace K
def decR : Rd → Items × Int
  | .bad e => (.nil, e)
  | .ok x _ => (x, 0)
theorem decode_eq (l : List UInt8) : decode l = if 100000 < l.length then (.nil, 3) else decR (ra l) := by
  unfold decode
  split
  · rfl
  · cases ra l <;> rfl
end K
/-- what Decode answers -/
def DecOf (R : Items × Int) (w : World) (e : Ending) (w' : World) : Prop := ∃ v, e = .returned (.tuple #[v, .int .i64 R.2]) ∧ R.1.Lies w' (fun b => w.heap.size ≤ b ∧ b < w'.heap.size) v ∧ Below w.heap.size w w'
def leftOf (sb : Nat) (w : World) : Nat := match w.cell? ⟨sb, 0, none⟩ with
  | some (.string t) => t.size
  | _ => 0
theorem leftOf_eq {sb : Nat} {w : World} {t : ByteArray} (h : w.heap[sb]? = some (strRow t)) : leftOf sb w = t.size := by
  unfold leftOf
  rw [cell_of_one h]
theorem ra_more_bad {l : List UInt8} {er : Int} (hl : l ≠ []) (h : rd 1 0 l = .bad er) : ra l = .bad er := by
  cases l with
  | nil => exact absurd rfl hl
  | cons a b => rw [ra_cons, step_it, h]
theorem ra_more_ok {l r : List UInt8} {x : Items} (hl : l ≠ []) (h : rd 1 0 l = .ok x r) : ra l = (ra r).app x := by
  cases l with
  | nil => exact absurd rfl hl
  | cons a b => rw [ra_cons, step_it, h]
set_option maxRecDepth 100000 in
set_option maxHeartbeats 8000000 in
theorem decode_any (s : ByteArray) (w : World) (hsz : s.size ≤ 4000000) :
    Calls Tryd.prog 25 #[.string s] w (DecOf (K.decode s.data.toList) w) := by
  have hls : s.data.toList.length = s.size := Array.length_toList
  rw [K.decode_eq]
  rw [hls]
  by_cases hbig : 100000 < s.size
  · have t0 : decide ((100000 : Int) < (s.size : Int)) = true := by simp; omega
    rw [if_pos hbig]
    go_enter Tryd.func25, Tryd.ntmps25
    go_wp2_with fail
    go_ret2
    exact ⟨_, rfl, Or.inl ⟨rfl, rfl⟩, (Below.refl _ w).alloc (Nat.le_refl _) _⟩
  · have t0 : decide ((100000 : Int) < (s.size : Int)) = false := by simp; omega
    rw [if_neg hbig]
    obtain ⟨R, hR⟩ : ∃ R, ra s.data.toList = R := ⟨_, rfl⟩
    rw [hR]
    have HR := hid hR
    clear hR hls
    go_enter Tryd.func25, Tryd.ntmps25
    go_wp2_with fail
    obtain ⟨W0, hW0⟩ : ∃ W0, (w.alloc (.cells #[.string s] 9)).alloc (.cells #[.func (.func 44) #[] #[.pointer (some ⟨w.heap.size, 0, none⟩), .pointer (some ⟨w.heap.size + 1, 0, none⟩)]] 82) = W0 := ⟨_, rfl⟩
    have hs0 : W0.heap[w.heap.size]? = some (strRow s) := by
      rw [← hW0, Lib.alloc_old _ _ _ (by simp)]; exact heap_alloc_new w _
    have hf0 : W0.heap[w.heap.size + 1]? = some (fnRow w.heap.size (w.heap.size + 1)) := by
      rw [← hW0]
      have := heap_alloc_new (w.alloc (.cells #[.string s] 9)) (.cells #[.func (.func 44) #[] #[.pointer (some ⟨w.heap.size, 0, none⟩), .pointer (some ⟨w.heap.size + 1, 0, none⟩)]] 82)
      unfold fnRow itemFn
      simpa using this
    have hb0 : Below w.heap.size w W0 := by rw [← hW0]; exact ((Below.refl _ w).alloc (Nat.le_refl _) _).alloc (by simp) _
    rw [hW0]
    have HS := hid hs0
    have HF := hid hf0
    have HB := hid hb0
    clear hW0 hs0 hf0 hb0
    go_loopw [5] (fun v wr => ∃ (t : ByteArray) (acc : Items), t.size + acc.length ≤ s.size ∧ Hid (wr.heap[w.heap.size]? = some (strRow t)) ∧ Hid (wr.heap[w.heap.size + 1]? = some (fnRow w.heap.size (w.heap.size + 1))) ∧ Hid (IOwn 62 (w.heap.size + 2) acc v wr) ∧ Hid (Below w.heap.size w wr) ∧ Hid (R = (ra t.data.toList).app acc)) (fun _ wr => leftOf w.heap.size wr)
    case atStart => exact ⟨s, .nil, by simp [Items.length], HS.out, HF.out, IOwn.nil _ _ _, HB.out, by show R = _; rw [Rd.app_nil]; exact HR.out.symm⟩
    case round =>
      obtain ⟨t, acc, hacc, hS, hF, hI, hB, hrd⟩ := hrel
      clear HS HF HB HR
      have c0 := cell_of_one hS.out
      have l0 := Go.lt_of_block hS.out
      have c1 := cell_of_one hF.out
      have l1 := Go.lt_of_block hF.out
      unfold itemFn at c1
      rcases Nat.eq_zero_or_pos t.size with h0 | h0
      · have hemp := emp_yes h0
        have HE : Hid (R = .ok acc []) := by
          show _ = _
          rw [hrd.out, List.eq_nil_of_length_eq_zero (show t.data.toList.length = 0 by rw [Array.length_toList]; exact h0), ra_nil]
          simp only [Rd.app, Items.app_nil]
        clear hrd
        go_wp2_with fail
        go_ret2
        rw [HE.out]
        exact ⟨_, rfl, hI.out.lies.mono (fun b hb => ⟨by omega, hb.2⟩), hB.out⟩
      · have hemp := emp_no (x := t) (by omega)
        have hne : t.data.toList ≠ [] := fun e => by
          have : t.data.toList.length = t.size := Array.length_toList
          rw [e] at this; simp at this; omega
        have HNE := hid hne
        have cI := item_any (t.size + 1) 0 w.heap.size (w.heap.size + 1) t wr (Nat.lt_succ_self _) (by omega) (by omega) hS.out hF.out (by omega)
        rw [show (((0 : Nat)) : Int) = 0 from rfl] at cI
        have HM := hid (leftOf_eq hS.out)
        clear hne
        go_wp2_with fail
        refine cI.mono ?_
        rintro e w4 ⟨g1, hans⟩
        have HF4 : Hid (w4.heap[w.heap.size + 1]? = some (fnRow w.heap.size (w.heap.size + 1))) := by
          show _ = _
          rw [g1.block _ l1 (fun e => by have := Option.some.inj e; omega)]; exact hF.out
        have HI4 := hid (hI.out.kept g1 (fun k e => by have := Option.some.inj e; omega))
        have HB4 := hid (hB.out.grown g1 hB.out.size (fun k e => by have := Option.some.inj e; omega))
        have hsz4 := g1.size
        clear c0 c1 cI g1
        rcases hans with ⟨er, t4, hb, rfl, hs4⟩ | ⟨k4, n4, y4, m4, r4, mv, hok, rfl, hm4, hs4⟩
        · have HE : Hid (R = .bad er) := by
            show _ = _
            rw [hrd.out, ra_more_bad HNE.out hb]; rfl
          have hne : (er != 0) = true := by rw [bne_iff_ne]; exact rd_bad _ _ (Nat.lt_succ_self _) 1 _ er hb
          clear hb hs4 hrd HI4 hI hB hS hF
          go_wp2_with fail
          go_ret2
          rw [HE.out]
          exact ⟨_, rfl, Or.inl ⟨rfl, rfl⟩, HB4.out.alloc (by have := HB4.out.size; omega) _⟩
        · have HRD : Hid (R = (ra r4).app (acc.app (.one k4 n4 y4 m4))) := by
            show _ = _
            rw [hrd.out, ra_more_ok HNE.out hok, Rd.app_app]
          obtain ⟨t4, ht4⟩ : ∃ t4 : ByteArray, (⟨r4.toArray⟩ : ByteArray) = t4 := ⟨_, rfl⟩
          have htl4 : t4.data.toList = r4 := by rw [← ht4]
          have hts4 : t4.size < t.size := by
            have h1 : t4.size = r4.length := by rw [← htl4, Array.length_toList]; rfl
            have h2 : t.data.toList.length = t.size := Array.length_toList
            have h4 : r4.length < t.data.toList.length := rd_less hok
            omega
          rw [ht4] at hs4
          rw [← htl4] at HRD
          have HS4 := hid hs4
          have HM4 : Hid (m4.Lies w4 (fun b => w.heap.size + 2 ≤ b ∧ b < w4.heap.size ∧ u5.ownBlock ≠ some b) mv) :=
            lies_own (S := wr.heap.size) (fun k hk => (hI.out.lt k hk).2) hm4 (by omega)
          have HLA := hid (p := acc.length ≤ 1000000000) (by omega)
          have HLV := hid hI.out.lt
          clear hok hs4 hrd hI hB hS hF ht4 htl4 hm4
          obtain ⟨ma, mn, mc, hmv'⟩ : ∃ a n c, mv = .slice a n c := by
            rcases HM4.out with ⟨h, _⟩ | ⟨b, o, c, h, _⟩
            · exact ⟨none, 0, 0, h⟩
            · exact ⟨_, _, _, h⟩
          subst hmv'
          have HI5 := hid (HI4.out.alloc (.cells #[.int .u8 k4, .int .i64 n4, .string y4, .slice ma mn mc] 62))
          have HB5 := hid ((Below.refl _ w4).alloc (Nat.le_refl _) (.cells #[.int .u8 k4, .int .i64 n4, .string y4, .slice ma mn mc] 62))
          have HY5 := hid (heap_alloc_new w4 (.cells #[.int .u8 k4, .int .i64 n4, .string y4, .slice ma mn mc] 62))
          go_upto_region 8 with fail
          generalize World.alloc w4 _ = w5 at HI5 HB5 HY5 ⊢
          obtain ⟨Y, hY⟩ : ∃ Y, w4.heap.size = Y := ⟨_, rfl⟩
          rw [hY] at HY5 ⊢
          have hsz5 := HB5.out.size
          have hR6 : IOwn 62 (w.heap.size + 2) acc u5 (w5.alloc (.cells #[.int .u8 k4, .int .i64 n4, .string y4, .slice ma mn mc] 62)) := HI5.out.alloc _
          have hm6 : m4.Lies (w5.alloc (.cells #[.int .u8 k4, .int .i64 n4, .string y4, .slice ma mn mc] 62)) (fun b => w.heap.size + 2 ≤ b ∧ b < (w5.alloc (.cells #[.int .u8 k4, .int .i64 n4, .string y4, .slice ma mn mc] 62)).heap.size ∧ u5.ownBlock ≠ some b) (.slice ma mn mc) :=
            (HM4.out.below (HB5.out.alloc (by omega) _) (fun b hb => hb.2.1)).mono (fun b hb => ⟨hb.1, by have := hb.2.1; simp; omega, hb.2.2⟩)
          have hg6 := heap_alloc_new w5 (.cells #[.int .u8 k4, .int .i64 n4, .string y4, .slice ma mn mc] 62)
          have HLW := hid hR6.lt
          have hlA := HLA.out
          clear HI4 HM4 hY
          obtain ⟨d0, d1, d2, d3⟩ := row4 HY5.out
          go_wp2_with (at_builtin; refine wpList_pushI itemT rfl _ _ rfl (w.heap.size + 2) acc u5 w5.heap.size k4 n4 y4 m4 (.slice ma mn mc) rfl rfl hR6 hm6 hg6 hlA (by simp; omega) ?_)
          intro v' w6 hI6 hgrow
          have HS6 : Hid (w6.heap[w.heap.size]? = some (strRow t4)) := by
            show _ = _
            rw [hgrow.block _ (by simp; omega) (fun e => by have := (HLW.out _ e.symm).1; omega), Lib.alloc_old _ _ _ (by omega), HB5.out.block _ (by omega)]; exact HS4.out
          have HF6 : Hid (w6.heap[w.heap.size + 1]? = some (fnRow w.heap.size (w.heap.size + 1))) := by
            show _ = _
            rw [hgrow.block _ (by simp; omega) (fun e => by have := (HLW.out _ e.symm).1; omega), Lib.alloc_old _ _ _ (by omega), HB5.out.block _ (by omega)]; exact HF4.out
          have HB6 := hid (((HB4.out.trans (HB5.out.mono (by omega))).alloc (by omega) (.cells #[.int .u8 k4, .int .i64 n4, .string y4, .slice ma mn mc] 62)).grown hgrow (by simp; omega) (fun k hk => by have := (HLW.out k hk).1; omega))
          have HI6 := hid hI6
          have HL6 : Hid (t4.size + (acc.app (.one k4 n4 y4 m4)).length ≤ s.size) := by
            show _ ≤ _
            rw [Items.app_length, show (Items.one k4 n4 y4 m4).length = 1 from rfl]; omega
          have HMM : Hid (leftOf w.heap.size w6 < leftOf w.heap.size wr) := by
            show _ < _
            rw [leftOf_eq HS6.out, HM.out]; exact hts4
          clear hI6 hgrow hR6 hm6 hg6 d0 d1 d2 d3 HI5 HB5
          go_wp2_with fail
          go_roundw
          case rel => exact ⟨t4, _, HL6.out, HS6, HF6, HI6, HB6, HRD⟩
          case measure => exact HMM.out
end Go.Proofs.YtfadnhihcobclaaDoor
