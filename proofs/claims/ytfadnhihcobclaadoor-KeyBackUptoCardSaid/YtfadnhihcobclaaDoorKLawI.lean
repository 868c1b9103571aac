/- The walk of the law's items, at the same items. -/
import Derived.Test.YtfadnhihcobclaaDoorKLawS
import Derived.Test.YtfadnhihcobclaaDoorVQuiet2
namespace Go.Proofs.YtfadnhihcobclaaDoor
open Go.RowKit
open Go.Lib (hid)
set_option maxRecDepth 100000 in
set_option maxHeartbeats 8000000 in
theorem ritems_same : ∀ (N : Nat) (l : K.Items) (_ : l.sz < N) (va vb : Value) (B : Nat) (w : World) (_ : l.In w B va) (_ : l.In w B vb) (_ : B ≤ w.heap.size) (_ : l.room ≤ 100000000000000),
    Calls Tryd.prog 22 #[va, vb] w fun e w' => e = .returned (.bool true) ∧ Below w.heap.size w w' := by
  intro N
  induction N with
  | zero => intro l hN; omega
  | succ N ih =>
    intro l hN va vb B w hva hvb hB hroom
    have IH := hid ih
    clear ih
    have HA := hid hva
    have HB := hid hvb
    obtain ⟨n, hn⟩ : ∃ n, l.length = n := ⟨_, rfl⟩
    have shape : ∀ v, l.In w B v → ∃ xa c, v = .slice xa n c := fun v hv => by
      rcases hv with ⟨a9, c9, rfl, rfl⟩ | ⟨b, o, c, rfl, _⟩
      · exact ⟨a9, c9, by rw [← hn]; rfl⟩
      · exact ⟨_, c, by rw [hn]⟩
    obtain ⟨xa, ca, hsa⟩ := shape va hva
    obtain ⟨xb, cb, hsb⟩ := shape vb hvb
    subst hsa hsb
    have hlen : n ≤ 100000000000000 := by
      have := K.Items.room_length l
      omega
    have HN := hid hn
    clear hn hva hvb shape
    go_enter Tryd.func22, Tryd.ntmps22
    go_wp2_with fail
    go_loopw [5] (fun i wr => ∃ (j : Nat), j ≤ n ∧ i = .int .i64 j ∧ Hid (Below w.heap.size w wr)) (fun i _ => n - (intOf i).toNat)
    case atStart => exact ⟨0, by omega, rfl, Below.refl _ _⟩
    case round =>
      obtain ⟨j, hj, rfl, hb⟩ := hrel
      by_cases hlt : j < n
      · have hl0 : decide ((j : Int) < (n : Int)) = true := by simp; omega
        have hj0 : (0 : Int) ≤ (j : Int) := by omega
        have hj1 : (j : Int) < (n : Int) := by omega
        obtain ⟨k, x, s, m, r, hcons⟩ := K.Items.cons_of_pos (l.drop j) (by rw [K.Items.drop_length]; have := HN.out; omega)
        have hsz : m.sz < N := by
          have h1 := K.Items.drop_sz l j
          rw [hcons] at h1
          simp only [K.Items.sz] at h1; omega
        have hml : m.room ≤ 100000000000000 := by
          have h1 := K.Items.drop_room l j
          rw [hcons] at h1
          simp only [K.Items.room] at h1; omega
        rcases HA.out with ⟨_, _, e, h0⟩ | ⟨b, o, c', e, hA0⟩
        · have := HN.out; rw [h0] at this; simp [K.Items.length] at this; omega
        rcases HB.out with ⟨_, _, e2, h0⟩ | ⟨b', o', c2, e2, hB0⟩
        · have := HN.out; rw [h0] at this; simp [K.Items.length] at this; omega
        simp only [Value.slice.injEq] at e e2
        obtain ⟨rfl, hnl, rfl⟩ := e
        obtain ⟨rfl, hnl2, rfl⟩ := e2
        clear hnl hnl2
        have hA := K.Items.At.drop l j o hA0
        have hBB := K.Items.At.drop l j o' hB0
        rw [hcons] at hA hBB
        obtain ⟨hbl, c0, c1, c2, ⟨mv, c3, hmv⟩, _⟩ := hA
        obtain ⟨hbl', d0, d1, d2, ⟨mv', d3, hmv'⟩, _⟩ := hBB
        rw [Nat.mul_comm 4 j] at c0 c1 c2 c3 d0 d1 d2 d3
        have hb1 : b < w.heap.size := by omega
        have hb2 : b' < w.heap.size := by omega
        have HM : Hid (m.In w B mv) := hmv
        have HM' : Hid (m.In w B mv') := hmv'
        have cR := fun X (hX : Below w.heap.size w X) => IH.out m hsz mv mv' B X (K.Items.In.below (hX.mono hB) HM.out) (K.Items.In.below (hX.mono hB) HM'.out) (Nat.le_trans hB hX.size) hml
        clear hcons hA0 hB0 hmv hmv' hsz hml
        have t0 : (s.toList != s.toList) = false := by simp
        have t1 : (x != x) = false := by simp
        have t2 : ((k : Int) != (k : Int)) = false := by simp
        go_wp2_with fail
        refine q_start (C := fun w' => Hid (Below w.heap.size w w')) (by kernel_rfl) (by kernel_rfl) (hid hb.out.drew) ?_
        repeat (first
          | (refine q_skip (by rfl) ?_
             try simp only [Act.put, List.setIfInBounds_toArray, List.set_cons_zero, List.set_cons_succ])
          | (refine q_val (by rfl) (x := ?_) (fun vv hC => ?_) ?_
             rotate_left
             · skip
               have x0 := (hC.out.cell (p := ⟨b, _, none⟩) hb1).trans c0
               have x1 := (hC.out.cell (p := ⟨b, _, none⟩) hb1).trans c1
               have x2 := (hC.out.cell (p := ⟨b, _, none⟩) hb1).trans c2
               have x3 := (hC.out.cell (p := ⟨b, _, none⟩) hb1).trans c3
               have y0 := (hC.out.cell (p := ⟨b', _, none⟩) hb2).trans d0
               have y1 := (hC.out.cell (p := ⟨b', _, none⟩) hb2).trans d1
               have y2 := (hC.out.cell (p := ⟨b', _, none⟩) hb2).trans d2
               have y3 := (hC.out.cell (p := ⟨b', _, none⟩) hb2).trans d3
               clear hC
               go_simp
               with_reducible rfl
             try simp only [Act.put, List.setIfInBounds_toArray, List.set_cons_zero, List.set_cons_succ])
          | (refine q_call (by rfl) (f := ?_) (args := ?_) (x := ?_) (fun vv hC => ?_) (fun vv hC => ?_) ?_
             rotate_left 3
             · go_simp
               first | with_reducible rfl | (apply And.intro <;> with_reducible rfl)
             · first
                 | (go_at_call 22; with_reducible refine (cR _ hC.out).mono ?_; rintro e ww ⟨rfl, bb⟩; refine And.intro ?_ (hid (hC.out.trans (bb.mono hC.out.size))); with_reducible rfl)
             try simp only [Act.put, List.setIfInBounds_toArray, List.set_cons_zero, List.set_cons_succ])
          | fail)
        refine wpQuiet_nil ?_
        intro vq hq
        clear hb
        go_wp2_with fail
        go_roundw
        case rel => exact ⟨j + 1, by omega, by go_num, hq⟩
        case measure => simp [intOf]; omega
      · have hl0 : decide ((j : Int) < (n : Int)) = false := by simp; omega
        go_wp2_with fail
        go_ret
        exact ⟨rfl, hb.out⟩
end Go.Proofs.YtfadnhihcobclaaDoor
