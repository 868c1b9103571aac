/- The walk of the law's given. -/
import Derived.Test.YtfadnhihcobclaaDoorKOwnI
import Derived.Test.YtfadnhihcobclaaDoorKLawS
import Derived.Test.YtfadnhihcobclaaDoorRow4
import Derived.Deep.RegionHeld3
namespace Go.Proofs.YtfadnhihcobclaaDoor
open Go.RowKit
open Go.Lib (hid)
open K
namespace K
/-- the first items -/
def Items.take : Items → Nat → Items
  | _, 0 => .nil
  | .nil, _ + 1 => .nil
  | .cons k n s l r, j + 1 => .cons k n s l (r.take j)
theorem Items.take_zero (l : Items) : l.take 0 = .nil := by cases l <;> rfl
theorem Items.take_succ : ∀ (l : Items) (j : Nat) {k : Nat} {n : Int} {s : ByteArray} {m r : Items}, l.drop j = .cons k n s m r → l.take (j + 1) = (l.take j).app (.one k n s m)
  | .nil, 0, _, _, _, _, _, h => by simp [Items.drop] at h
  | .nil, _ + 1, _, _, _, _, _, h => by simp [Items.drop] at h
  | .cons _ _ _ _ t, 0, _, _, _, _, _, h => by
    simp only [Items.drop, Items.cons.injEq] at h
    obtain ⟨rfl, rfl, rfl, rfl, _⟩ := h
    simp only [Items.take, Items.take_zero]
    rfl
  | .cons _ _ _ _ t, j + 1, _, _, _, _, _, h => by
    simp only [Items.drop] at h
    have := Items.take_succ t j h
    rw [Items.take, this]
    rfl
theorem Items.take_length : ∀ (l : Items) (j : Nat), j ≤ l.length → (l.take j).length = j
  | l, 0, _ => by rw [Items.take_zero]; rfl
  | .nil, _ + 1, h => by simp [Items.length] at h
  | .cons _ _ _ _ r, j + 1, h => by
    simp only [Items.length] at h
    simp only [Items.take, Items.length, Items.take_length r j (by omega)]
theorem Items.take_all : ∀ (l : Items), l.take l.length = l
  | .nil => rfl
  | .cons _ _ _ _ r => by simp only [Items.length, Items.take, Items.take_all r]
end K
def GivOf (l : Items) (w : World) (e : Ending) (w' : World) : Prop := ∃ v, e = .returned v ∧ IOwn 62 w.heap.size l v w' ∧ Below w.heap.size w w'
theorem cellG {w w' : World} {b i : Nat} {v : Value} (h : Below w.drew.heap.size w.drew w') (hb : b < w.heap.size) (hc : w.cell? ⟨b, i, none⟩ = some v) : w'.cell? ⟨b, i, none⟩ = some v := (h.cell (p := ⟨b, i, none⟩) hb).trans hc
theorem cellGA {w1 : World} {b i : Nat} {v : Value} {o : Obj} (hc : w1.cell? ⟨b, i, none⟩ = some v) (hb : b < w1.heap.size) : (w1.alloc o).cell? ⟨b, i, none⟩ = some v := (((Below.refl w1.heap.size w1).alloc (Nat.le_refl _) o).cell (p := ⟨b, i, none⟩) hb).trans hc
theorem cellGG {w1 w6 : World} {b i : Nat} {v : Value} {o : Obj} {row : Option Nat} (hg : (w1.alloc o).grownBy w6 row) (hne : row ≠ some b) (hc : w1.cell? ⟨b, i, none⟩ = some v) (hb : b < w1.heap.size) : w6.cell? ⟨b, i, none⟩ = some v :=
  (hg.cell_far ⟨b, i, none⟩ (by simp; omega) (Ne.symm hne)).trans (cellGA hc hb)
theorem ltG {w w1 : World} {b : Nat} (h : Below w.drew.heap.size w.drew w1) (hb : b < w.heap.size) : b < w1.heap.size := Nat.lt_of_lt_of_le hb h.size
theorem given_lies {wr w1 : World} {B : Nat} {m T : Items} {gv u3 : Value} {E E2 : TypeId} {o : Obj} (hI : IOwn E B T u3 wr) (hB : B ≤ wr.heap.size) (hg : IOwn E2 wr.drew.heap.size m gv w1) : m.Lies (w1.alloc o) (fun b => B ≤ b ∧ b < (w1.alloc o).heap.size ∧ u3.ownBlock ≠ some b) gv :=
  ((lies_own (w := w1) (B := B) (S := wr.heap.size) (fun k hk => (hI.lt k hk).2) hg.lies hB).below ((Below.refl w1.heap.size w1).alloc (Nat.le_refl _) o) (fun b hb => hb.2.1)).mono (fun b hb => ⟨hb.1, by have := hb.2.1; simp; omega, hb.2.2⟩)
set_option maxRecDepth 100000 in
set_option maxHeartbeats 8000000 in
theorem given_any : ∀ (N : Nat) (l : Items) (_ : l.sz < N) (v : Value) (B : Nat) (w : World) (_ : l.In w B v) (_ : B ≤ w.heap.size) (_ : l.room ≤ 10000000000),
    Calls Tryd.prog 19 #[v] w (GivOf l w) := by
  intro N
  induction N with
  | zero => intro l hN; omega
  | succ N ih =>
    intro l hN v B w hv hBs hroom
    have IH := hid ih
    clear ih
    have HV := hid hv
    obtain ⟨n, hn⟩ : ∃ n, l.length = n := ⟨_, rfl⟩
    obtain ⟨xa, c, hsv⟩ : ∃ xa c, v = .slice xa n c := by
      rcases hv with ⟨a9, c9, rfl, rfl⟩ | ⟨b, o, c, rfl, _⟩
      · exact ⟨a9, c9, by rw [← hn]; rfl⟩
      · exact ⟨_, c, by rw [hn]⟩
    subst hsv
    have hlen : n ≤ 1000000000 := by
      have := K.Items.room_length l
      omega
    have Hn := hid hn
    clear hn hv
    go_enter Tryd.func19, Tryd.ntmps19
    go_wp2_with fail
    go_loopw [3, 4] (fun ov i wr => ∃ (j : Nat), j ≤ n ∧ i = .int .i64 j ∧ Hid (IOwn 62 w.heap.size (l.take j) ov wr) ∧ Hid (Below w.heap.size w wr)) (fun _ i _ => n - (intOf i).toNat)
    case atStart => exact ⟨0, by omega, rfl, by show IOwn _ _ _ _ _; rw [Items.take_zero]; exact IOwn.nil _ _ _, Below.refl _ _⟩
    case round =>
      obtain ⟨j, hj, rfl, hI, hB⟩ := hrel
      have hBw := hB.out.size
      by_cases hlt : j < n
      · have hl0 : decide ((j : Int) < (n : Int)) = true := by simp; omega
        have hj0 : (0 : Int) ≤ (j : Int) := by omega
        have hj1 : (j : Int) < (n : Int) := by omega
        obtain ⟨k, x, s, m, r, hcons⟩ := K.Items.cons_of_pos (l.drop j) (by rw [K.Items.drop_length]; have := Hn.out; omega)
        rcases HV.out with ⟨_, _, e, h0⟩ | ⟨b, o, c', e, hA0⟩
        · have := Hn.out; rw [h0] at this; simp [K.Items.length] at this; omega
        simp only [Value.slice.injEq] at e
        obtain ⟨rfl, hnl, rfl⟩ := e
        clear hnl
        have hsz : m.sz < N := by
          have h1 := K.Items.drop_sz l j
          rw [hcons] at h1
          simp only [K.Items.sz] at h1; omega
        have hml : m.room ≤ 10000000000 := by
          have h1 := K.Items.drop_room l j
          rw [hcons] at h1
          simp only [K.Items.room] at h1; omega
        have hA := K.Items.At.drop l j o (hA0.below (hB.out.mono hBs))
        rw [hcons] at hA
        obtain ⟨hbB, a0, a1, a2, ⟨mv, a3, hmv⟩, _⟩ := hA
        rw [Nat.mul_comm 4 j] at a0 a1 a2 a3
        have HM : Hid (m.In wr B mv) := hmv
        have HT := hid (Items.take_succ l j hcons)
        have HTL := hid (Items.take_length l j (by have := Hn.out; omega))
        obtain ⟨T, hT⟩ : ∃ T, l.take j = T := ⟨_, rfl⟩
        rw [hT] at HT HTL hI
        have hbw : b < wr.heap.size := by omega
        have cG := IH.out m hsz mv B
        have hne : u3.ownBlock ≠ some b := fun e => by
          have := (hI.out.lt b e).1
          omega
        have HNE := hid hne
        have hlA : T.length ≤ 1000000000 := by rw [HTL.out]; omega
        clear hcons hA0 hmv hsz hT hne
        go_upto_region 5 with fail
        have HI := hid hI.out
        have HB := hid hB.out
        clear hI hB
        go_region_held3 (fun w' => w'.cell? ⟨b, o + j * 4, none⟩ = some (.int .u8 k) ∧ w'.cell? ⟨b, o + j * 4 + 1, none⟩ = some (.int .i64 x) ∧ w'.cell? ⟨b, o + j * 4 + 2, none⟩ = some (.string s) ∧ w'.cell? ⟨b, o + j * 4 + 3, none⟩ = some mv)
          (first
            | assumption
            | (go_split_ands; with_reducible exact ⟨cellG b1 hbw a0, cellG b1 hbw a1, cellG b1 hbw a2, cellG b1 hbw a3⟩)
            | (go_split_ands; with_reducible exact ⟨cellGA (cellG b1 hbw a0) (ltG b1 hbw), cellGA (cellG b1 hbw a1) (ltG b1 hbw), cellGA (cellG b1 hbw a2) (ltG b1 hbw), cellGA (cellG b1 hbw a3) (ltG b1 hbw)⟩)
            | (go_split_ands; with_reducible exact ⟨cellGG hgrow HNE.out (cellG b1 hbw a0) (ltG b1 hbw), cellGG hgrow HNE.out (cellG b1 hbw a1) (ltG b1 hbw), cellGG hgrow HNE.out (cellG b1 hbw a2) (ltG b1 hbw), cellGG hgrow HNE.out (cellG b1 hbw a3) (ltG b1 hbw)⟩)
            | go_keep
            | fail)
          (first
            | (go_at_call 19; refine (cG wr.drew (HM.out.below (Below.refl B wr).drew) (by show B ≤ wr.heap.size; omega) hml).mono ?_; rintro e w1 ⟨gv, rfl, hg, b1⟩; obtain ⟨ga, gc, hgv⟩ := hg.shape; subst hgv)
            | (refine step_pushI itemT (by rfl) (.tmp 11) (.tmp 34) (by rfl) w.heap.size T u3 w1.heap.size k x s m (.slice ga m.length gc) (by rfl) (by rfl) (((HI.out.drew).below b1).alloc _) (given_lies HI.out (by omega) hg) (heap_alloc_new w1 _) hlA (Nat.le_trans (Nat.le_trans hBw b1.size) (by simp)) ?_; intro v' w6 hI6 hgrow)
            | fail)
        all_goals
          have HI6 : Hid (IOwn 62 w.heap.size (l.take (j + 1)) v' w6) := by
            show IOwn _ _ _ _ _
            rw [HT.out]; exact hI6
          have HB6 := hid (((HB.out.drew.trans (b1.mono hBw)).alloc (Nat.le_trans hBw b1.size) (.cells #[.int .u8 k, .int .i64 x, .string s, .slice ga m.length gc] 62)).grown hgrow (Nat.le_trans (Nat.le_trans hBw b1.size) (by simp)) (fun k hk => (HI.out.lt k hk).1))
          clear hI6 hgrow hg b1
          go_split_ands
          go_wp2_with fail
          go_roundw
          case rel => exact ⟨j + 1, by omega, by go_num, HI6, HB6⟩
          case measure => simp [intOf] <;> omega
      · have hl0 : decide ((j : Int) < (n : Int)) = false := by simp; omega
        obtain rfl : j = n := by omega
        have HR : Hid (IOwn 62 w.heap.size l u3 wr) := by
          have := hI.out
          rw [← Hn.out, Items.take_all] at this
          exact this
        clear hI
        go_wp2_with fail
        go_ret
        exact ⟨_, rfl, HR.out, hB.out⟩
end Go.Proofs.YtfadnhihcobclaaDoor
