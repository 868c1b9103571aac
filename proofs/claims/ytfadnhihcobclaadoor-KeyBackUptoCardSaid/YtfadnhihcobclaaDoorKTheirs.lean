/- The walk of the law's theirs. -/
import Derived.Test.YtfadnhihcobclaaDoorKParts
import Derived.Deep.RegionHeld3
import Derived.Deep.AppendLies
namespace Go.Proofs.YtfadnhihcobclaaDoor
open Go.RowKit
open Go.Lib (hid)
open K
theorem infoPart3 : (Tryd.prog.info? 26).map (fun i => (i.zero, i.size, i.bytes)) = some (some (.agg #[.bool false, .int .i64 0, .string ⟨#[]⟩]), 3, 32) := by kernel_rfl
def OwnOf (ps : List Part) (w : World) (e : Ending) (w' : World) : Prop := ∃ v, e = .returned v ∧ POwn w.heap.size ps v w' ∧ Below w.heap.size w w'

set_option maxRecDepth 100000 in
set_option maxHeartbeats 4000000 in
theorem theirs_any (ps : List Part) (sv : Value) (w : World) (hin : PIn w ps sv) (hlen : ps.length ≤ 1000000) :
    Calls Tryd.prog 16 #[sv] w (OwnOf ps w) := by
  obtain ⟨n, hn⟩ : ∃ n, ps.length = n := ⟨_, rfl⟩
  obtain ⟨xa, c, hsv⟩ := hin.shape
  rw [hn] at hsv hlen
  subst hsv
  have HIN := hid hin
  have HN := hid hn
  clear hin hn
  obtain ⟨i0, hi, hz0, hz1, hz2⟩ := info_parts infoPart3
  go_enter Tryd.func16, Tryd.ntmps16
  go_wp2_with fail
  go_loopw [3, 4] (fun v i wr => ∃ (k : Nat), k ≤ n ∧ i = .int .i64 k ∧ Hid (POwn w.heap.size (ps.take k) v wr) ∧ Hid (Below w.heap.size w wr)) (fun _ i _ => n - (intOf i).toNat)
  case atStart => exact ⟨0, by omega, rfl, ⟨rfl, Or.inl ⟨rfl, rfl⟩⟩, Below.refl _ _⟩
  case round =>
    obtain ⟨k, hk, rfl, hr, hb⟩ := hrel
    by_cases hlt : k < n
    · have hl : decide ((k : Int) < (n : Int)) = true := by simp; omega
      have hkp : k < ps.length := by have := HN.out; omega
      obtain ⟨b, o, c', hsv, hbl, c0, c1, c2⟩ := HIN.out.cells hkp
      rw [← hb.out.cell (p := ⟨b, _, none⟩) hbl] at c0 c1 c2
      rw [HN.out] at hsv
      simp only [Value.slice.injEq, true_and] at hsv
      obtain ⟨rfl, rfl⟩ := hsv
      have htk : ps.take (k + 1) = ps.take k ++ [ps[k]] := by rw [List.take_succ_eq_append_getElem]
      obtain ⟨p, hpe⟩ : ∃ p, ps[k] = p := ⟨_, rfl⟩
      rw [hpe] at c0 c1 c2 htk
      have HT := hid htk
      have hlk : (ps.take k).length = k := by simp; omega
      have HLK := hid hlk
      clear htk hpe hkp hlk
      obtain ⟨tx, x, sy⟩ := p
      simp only at c0 c1 c2
      have hk0 : (0 : Int) ≤ (k : Int) := by omega
      have hk1 : (k : Int) < (n : Int) := by omega
      have hsz := hb.out.size
      go_upto_region 5 with fail
      have hB0 := hb.out
      have hbw : b ≠ wr.heap.size := by omega
      have hne : u3.ownBlock ≠ some b := fun e => by
        have h1 := (World.ownsRow.lt hr.out b e).1
        omega
      have HNE := hid hne
      have hR0 : World.ownsRow wr w.heap.size 26 3 u3 k (rowOf (ps.take k)) := by
        have := hr.out
        unfold POwn at this
        rw [HLK.out] at this; exact this
      have HR0 := hid hR0
      have HB0 := hid hB0
      clear hR0 hB0 hne hr hb
      go_region_held3 (fun w' => w'.cell? ⟨b, o + k * 3, none⟩ = some (.bool tx) ∧ w'.cell? ⟨b, o + k * 3 + 1, none⟩ = some (.int .i64 x) ∧ w'.cell? ⟨b, o + k * 3 + 2, none⟩ = some (.string sy))
        (first
          | go_keep
          | (go_split_ands
             refine ⟨?_, ?_, ?_⟩
             · (rw [hgrow.cell_far _ (by simp; omega) (Ne.symm HNE.out)]; assumption)
             · (rw [hgrow.cell_far _ (by simp; omega) (Ne.symm HNE.out)]; assumption)
             · (rw [hgrow.cell_far _ (by simp; omega) (Ne.symm HNE.out)]; assumption)))
        ((refine step_append_own (by rfl) _ _ _ (by rfl) w.heap.size 26 i0 _ 3 32 Tryd.underlying32 hi hz0 hz1 hz2 rfl (by decide) u3 k _ (by rfl) (World.ownsRow.drew (World.ownsRow.alloc HR0.out _))
            ⟨wr.heap.size, 0, none⟩ 1 1 [.bool tx, .int .i64 x, .string sy] (by rfl) (by rfl) (World.news_of_block (cs := #[.bool tx, .int .i64 x, .string sy]) (t := 26) (fr := (0, 0)) (heap_alloc_new wr _)) (by simp [Value.oneCell'])
            (by unfold maxLen; omega) (by omega) (by simp; omega) ?_; intro v' w1 hown1 hgrow))
      all_goals
        have HN2 : Hid (POwn w.heap.size (ps.take (k + 1)) v' w1) := by
          show World.ownsRow w1 _ _ _ _ _ _
          rw [HT.out, rowOf_append, List.length_append, HLK.out]
          exact hown1
        have HB2 : Hid (Below w.heap.size w w1) := (HB0.out.alloc HB0.out.size _).drew.grown hgrow (by simp; omega) (fun q hq => (World.ownsRow.lt HR0.out q hq).1)
        clear hown1 hgrow
        go_split_ands
        go_wp2_with fail
        go_roundw
        case rel => exact ⟨k + 1, by omega, by go_num, HN2, HB2⟩
        case measure => simp [intOf]; omega
    · have hl : decide ((k : Int) < (n : Int)) = false := by simp; omega
      obtain rfl : k = n := by omega
      have hfull : ps.take k = ps := List.take_of_length_le (by have := HN.out; omega)
      have HR : Hid (POwn w.heap.size ps u3 wr) := by have := hr.out; rw [hfull] at this; exact this
      clear hr hfull
      go_wp2_with fail
      go_ret
      exact ⟨_, rfl, HR.out, hb.out⟩
end Go.Proofs.YtfadnhihcobclaaDoor
