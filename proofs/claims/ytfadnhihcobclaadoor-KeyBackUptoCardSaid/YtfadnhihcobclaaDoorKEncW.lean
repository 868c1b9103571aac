/- The walks of a buffer's items, and of key.Encode. -/
import Derived.Test.YtfadnhihcobclaaDoorKCount
import Derived.Test.YtfadnhihcobclaaDoorStepOwn
import Derived.Deep.CutBlock
import Derived.Deep.CutRange
import Derived.Deep.DeepCutAuto
import Derived.Laws.Closers25b
namespace Go.Proofs.YtfadnhihcobclaaDoor
open Go.RowKit
open Go.Lib (hid)

namespace K
def Items.sz : Items → Nat
  | .nil => 0
  | .cons _ _ _ l r => l.sz + r.sz + 1
theorem Items.drop_sz : ∀ (l : Items) (j : Nat), (l.drop j).sz ≤ l.sz
  | l, 0 => by cases l <;> exact Nat.le_refl _
  | .nil, _ + 1 => Nat.le_refl _
  | .cons _ _ _ _ r, j + 1 => by
    have := Items.drop_sz r j
    simp only [Items.drop, Items.sz]; omega
end K

namespace K
/-- what holds at the items' loop's head: so much is written, so much is left -/
def Step (l : Items) (d : Nat) (pre : List UInt8) (j : Nat) (cur : List UInt8) : Prop :=
  ∃ done, cur = pre ++ done ∧ enc l d = (done ++ (enc (l.drop j) d).1, (enc (l.drop j) d).2) ∧ cur.length + (l.drop j).room ≤ pre.length + l.room
theorem Step.start (l : Items) (d : Nat) (pre : List UInt8) : Step l d pre 0 pre := by
  have e : l.drop 0 = l := by cases l <;> rfl
  exact ⟨[], by simp, by rw [e]; simp, by rw [e]; exact Nat.le_refl _⟩
theorem Step.next {l : Items} {d : Nat} {pre cur : List UInt8} {j : Nat} (h : Step l d pre j cur) {k : Nat} {n : Int} {s : ByteArray} {m r : Items} (hd : l.drop j = .cons k n s m r) {o : List UInt8 × Int}
    (ho : one k n s m.length d (enc m (d + 1)) = o) (he : o.2 = 0) : Step l d pre (j + 1) (cur ++ o.1) := by
  obtain ⟨done, h1, h2, h3⟩ := h
  have hr := Items.drop_succ l j hd
  have hl := enc_room (.cons k n s m r) d
  subst ho
  refine ⟨done ++ (one k n s m.length d (enc m (d + 1))).1, by rw [h1]; simp, ?_, ?_⟩
  · rw [h2, hd, hr]
    conv => lhs; unfold enc
    rw [if_pos he]; simp
  · rw [hd] at h3
    rw [hr, List.length_append]
    have := one_room k n s m d
    simp only [Items.room] at h3
    omega
theorem Step.stop {l : Items} {d : Nat} {pre cur : List UInt8} {j : Nat} (h : Step l d pre j cur) {k : Nat} {n : Int} {s : ByteArray} {m r : Items} (hd : l.drop j = .cons k n s m r) {o : List UInt8 × Int}
    (ho : one k n s m.length d (enc m (d + 1)) = o) (he : o.2 ≠ 0) : (enc l d).2 = o.2 := by
  obtain ⟨done, h1, h2, h3⟩ := h
  rw [h2, hd]
  conv => lhs; unfold enc
  subst ho
  rw [if_neg he]
theorem Step.done {l : Items} {d : Nat} {pre cur : List UInt8} {j : Nat} (h : Step l d pre j cur) (hj : l.length ≤ j) : (enc l d).2 = 0 ∧ cur = pre ++ (enc l d).1 := by
  obtain ⟨done, h1, h2, _⟩ := h
  have hn : l.drop j = .nil := by
    have := Items.drop_length l j
    cases hc : l.drop j with
    | nil => rfl
    | cons k n s m r => rw [hc] at this; simp only [Items.length] at this; omega
  rw [hn] at h2
  rw [h2]
  exact ⟨rfl, by rw [h1]; simp [enc]⟩
end K
theorem xor_ones (y : Nat) (h : y < 18446744073709551616) : y ^^^ 18446744073709551615 = 18446744073709551615 - y := by
  have e := congrArg BitVec.toNat (BitVec.xor_allOnes (x := BitVec.ofNat 64 y))
  rw [BitVec.toNat_xor, BitVec.toNat_not, BitVec.toNat_ofNat, BitVec.toNat_allOnes] at e
  rw [Nat.mod_eq_of_lt h] at e
  exact e
theorem zig_bits (n : Int) (h0 : -9223372036854775808 ≤ n) (h1 : n ≤ 9223372036854775807) : bits .xor .u64 (IntKind.u64.wrap (wrap64 (n * 2))) (IntKind.u64.wrap (n / 9223372036854775808)) = ((K.zig n : Nat) : Int) := by
  rw [IntKind.wrap_u64, IntKind.wrap_u64]
  unfold wrap64
  by_cases h : 0 ≤ n
  · obtain ⟨m, rfl⟩ := Int.eq_ofNat_of_zero_le h
    have e1 : (((m : Int) * 2 + 9223372036854775808) % 18446744073709551616 - 9223372036854775808) % 18446744073709551616 = ((2 * m : Nat) : Int) := by omega
    have e2 : (m : Int) / 9223372036854775808 % 18446744073709551616 = ((0 : Nat) : Int) := by omega
    rw [e1, e2, bits_xor_u64_nat _ _ (by omega) (by omega)]
    unfold K.zig
    rw [if_pos h, Nat.xor_zero]
    omega
  · obtain ⟨m, hm⟩ := Int.eq_ofNat_of_zero_le (show 0 ≤ -n by omega)
    have e1 : ((n * 2 + 9223372036854775808) % 18446744073709551616 - 9223372036854775808) % 18446744073709551616 = ((18446744073709551616 - 2 * m : Nat) : Int) := by omega
    have e2 : n / 9223372036854775808 % 18446744073709551616 = ((18446744073709551615 : Nat) : Int) := by omega
    rw [e1, e2, bits_xor_u64_nat _ _ (by omega) (by omega), xor_ones _ (by omega)]
    unfold K.zig
    rw [if_neg h]
    omega
theorem K.zig_lt (n : Int) (h0 : -9223372036854775808 ≤ n) (h1 : n ≤ 9223372036854775807) : K.zig n < 18446744073709551616 := by
  unfold K.zig
  split <;> omega
theorem K.one_bad {k : Nat} {n : Int} {s : ByteArray} {c d : Nat} {e : List UInt8 × Int} (h1 : ¬ (k = 1 ∧ s.size = 0 ∧ c = 0)) (h2 : ¬ (k = 2 ∧ n = 0 ∧ c = 0)) (h3 : ¬ (k = 3 ∧ n = 0 ∧ s.size = 0)) : K.one k n s c d e = ([], 1) := by
  unfold K.one
  rw [if_neg h1, if_neg h2, if_neg h3]

set_option maxRecDepth 100000 in
set_option maxHeartbeats 8000000 in
theorem items_any : ∀ (N : Nat) (l : K.Items) (_ : l.sz < N) (v : Value) (d B q : Nat) (pre : List UInt8) (w : World) (_ : l.In w B v) (_ : l.may) (_ : d ≤ 16) (_ : Buf B q pre w) (_ : pre.length + l.room ≤ 100000000000000),
    Calls Tryd.prog 40 #[.pointer (some ⟨q, 0, none⟩), v, .int .i64 d] w fun e w' => e = .returned (.int .i64 (K.enc l d).2) ∧ (∃ m, Buf B q m w' ∧ ((K.enc l d).2 = 0 → m = pre ++ (K.enc l d).1)) ∧ Below B w w' := by
  intro N
  induction N with
  | zero => intro l hN; omega
  | succ N ih =>
    intro l hN v d B q pre w hv hm hd hb hr
    have IH := hid ih
    clear ih
    have hmf : ∀ (fn : Fn) (first cap : Array Value) (w : World), (Instr.makeFunc fn first cap).run Tryd.prog w = .ok (.func fn first cap) w := fun _ _ _ _ => rfl
    obtain ⟨i0, hi, hz0, hz1, hz2⟩ := info_parts infoByte
    have HB := hid hb
    clear hb
    rcases hv with ⟨a9, c9, rfl, rfl⟩ | ⟨b, o, c, rfl, hA⟩
    · go_enter Tryd.func40, Tryd.ntmps40
      go_wp2_with fail
      go_loopw [15] (fun i wr => i = .int .i64 0 ∧ Hid (wr = w)) (fun i _ => 0)
      case atStart => exact ⟨rfl, rfl⟩
      case round =>
        obtain ⟨rfl, hw⟩ := hrel
        go_wp2_with fail
        go_ret
        have hw' := hw.out
        subst hw'
        exact ⟨rfl, ⟨pre, HB.out, fun _ => by simp [K.enc]⟩, Below.refl _ _⟩
    · obtain ⟨n, hn⟩ : ∃ n, l.length = n := ⟨_, rfl⟩
      rw [hn]
      have hn14 : n ≤ 100000000000000 := by
        have := K.Items.room_length l
        omega
      have Hn := hid hn
      clear hn
      have HA := hid hA
      clear hA
      go_enter Tryd.func40, Tryd.ntmps40
      go_wp2_with fail
      go_loopw [15] (fun i wr => ∃ (j : Nat) (cur : List UInt8), j ≤ n ∧ i = .int .i64 j ∧ Hid (Buf B q cur wr) ∧ Hid (Below B w wr) ∧ Hid (K.Step l d pre j cur)) (fun i _ => n - (intOf i).toNat)
      case atStart => exact ⟨0, pre, by omega, rfl, HB, Below.refl _ _, K.Step.start l d pre⟩
      case round =>
        obtain ⟨j, cur, hj, rfl, hb, hbl, hS⟩ := hrel
        clear HB
        by_cases hlt : j < n
        · have hl0 : decide ((j : Int) < (n : Int)) = true := by simp; omega
          obtain ⟨k, x, s, m, r, hcons⟩ := K.Items.cons_of_pos (l.drop j) (by rw [K.Items.drop_length]; have := Hn.out; omega)
          have hA := K.Items.At.drop l j o (HA.out.below hbl.out)
          rw [hcons] at hA
          obtain ⟨hbB, a0, a1, a2, ⟨mv, a3, hmv⟩, _⟩ := hA
          have hmay := K.Items.may.drop l j hm
          rw [hcons] at hmay
          obtain ⟨y1, y2, y3, y4, y5, y6, _⟩ := hmay
          rw [Nat.mul_comm 4 j] at a0 a1 a2 a3
          have hmIn : Hid (K.Items.In wr B m mv) := hmv
          obtain ⟨ma, mc, rfl⟩ : ∃ ma mc, mv = .slice ma m.length mc := by
            rcases hmv with ⟨_, _, rfl, rfl⟩ | ⟨b', o', c', rfl, _⟩
            · exact ⟨_, _, rfl⟩
            · exact ⟨_, _, rfl⟩
          obtain ⟨mn, hmn⟩ : ∃ mn, m.length = mn := ⟨_, rfl⟩
          rw [hmn] at a3 hmIn y5
          have Hmn := hid hmn
          obtain ⟨ch, rfl⟩ : ∃ ch : UInt8, k = ch.toNat := ⟨UInt8.ofNat k, by rw [UInt8.toNat_ofNat']; omega⟩
          have Hcons := hid hcons
          have hbuf := hb.out
          have hblw := hbl.out
          have hblw0 := hbl
          have hcl : cur.length ≤ 100000000000000 := by
            obtain ⟨_, _, _, h3⟩ := hS.out
            omega
          clear hmn hcons hmv hb hbl
          go_upto_region 5 with fail
          have hqlt := hbuf.lt
          obtain ⟨I, hI⟩ : ∃ I : Obj, Obj.cells #[.int .u8 ch.toNat, .int .i64 x, .string s, .slice ma mn mc] 62 (0, 0) = I := ⟨_, rfl⟩
          have hBw := hblw.size
          have hqB : B ≤ q := hbuf.choose_spec.1
          have hbuf1 := hbuf.alloc I
          have hbl1 := hblw.alloc (by omega) I
          have hX : (wr.alloc I).heap[wr.heap.size]? = some (.cells #[.int .u8 ch.toNat, .int .i64 x, .string s, .slice ma mn mc] 62 (0, 0)) := by rw [hI]; exact heap_alloc_new wr _
          have hXq : wr.heap.size ≠ q := by omega
          have hXs : wr.heap.size < (wr.alloc I).heap.size := by simp
          rw [hI]
          generalize wr.alloc I = w1 at *
          obtain ⟨X, hXe⟩ : ∃ X, wr.heap.size = X := ⟨_, rfl⟩
          rw [hXe] at hX hXq hXs
          rw [hXe]
          obtain ⟨vb, _, hq, hrow⟩ := hbuf1
          have hq1 : q < w1.heap.size := by omega
          have c0 := cell_of_one hq
          have c1 : w1.cell? ⟨X, 0, none⟩ = some (.int .u8 ch.toNat) := by rw [cell_of_row _ _ _ _ _ _ hX]; rfl
          have c2 : (w1.alloc (.cells #[.int .u8 ch.toNat] 5)).cell? ⟨q, 0, none⟩ = some vb := by rw [((Below.refl w1.heap.size w1).alloc (Nat.le_refl _) _).cell (p := ⟨q, 0, none⟩) hq1]; exact c0
          have c3 : (w1.alloc (.cells #[.int .u8 ch.toNat] 5)).cell? ⟨X, 0, none⟩ = some (.int .u8 ch.toNat) := by rw [((Below.refl w1.heap.size w1).alloc (Nat.le_refl _) _).cell (p := ⟨X, 0, none⟩) hXs]; exact c1
          have hR1 : Row B cur vb (w1.alloc (.cells #[.int .u8 ch.toNat] 5)).drew := World.ownsRow.drew (World.ownsRow.alloc hrow _)
          have hB1 := (hbl1.alloc (by omega) (.cells #[.int .u8 ch.toNat] 5)).drew
          have hsz1 : B ≤ (w1.alloc (.cells #[.int .u8 ch.toNat] 5)).drew.heap.size := by
            show B ≤ (w1.alloc _).heap.size
            simp; omega
          have hnew : ∀ j u, [Value.int .u8 ch.toNat][j]? = some u → (w1.alloc (.cells #[.int .u8 ch.toNat] 5)).drew.cell? ((⟨w1.heap.size, 0, none⟩ : Addr).add j) = some u := by
            intro j u hj
            match j, hj with
            | 0, hj => simp at hj; subst hj; simp [Addr.add]
          have hgo : ∀ v' w', World.ownsRow w' B 5 1 v' (cur.length + 1) (Lib.byteCells cur ++ [.int .u8 ch.toNat]) → (w1.alloc (.cells #[.int .u8 ch.toNat] 5)).drew.grownBy w' vb.ownBlock →
              (∃ a n c, v' = .slice a n c) ∧ w'.cell? ⟨q, 0, none⟩ = some vb ∧ w'.frozen? ⟨q, 0, none⟩ = false ∧ Hid (Buf B q (cur ++ [ch]) (w'.setCell ⟨q, 0, none⟩ v') ∧ Below B w (w'.setCell ⟨q, 0, none⟩ v') ∧ (w'.setCell ⟨q, 0, none⟩ v').heap[X]? = some (.cells #[.int .u8 ch.toNat, .int .i64 x, .string s, .slice ma mn mc] 62 (0, 0))) := by
            intro v' w' h1 h2
            have hR3 : Row B (cur ++ [ch]) v' w' := Row.of_push (c := ch) h1
            have hq2 : (w1.alloc (.cells #[.int .u8 ch.toNat] 5)).drew.heap[q]? = some (.cells #[vb] 76 (0, 0)) := by
              show (w1.alloc _).heap[q]? = _
              rw [Lib.alloc_old _ _ _ hq1]; exact hq
            have hX2 : (w1.alloc (.cells #[.int .u8 ch.toNat] 5)).drew.heap[X]? = some (.cells #[.int .u8 ch.toNat, .int .i64 x, .string s, .slice ma mn mc] 62 (0, 0)) := by
              show (w1.alloc _).heap[X]? = _
              rw [Lib.alloc_old _ _ _ hXs]; exact hX
            have hq3 : w'.heap[q]? = some (.cells #[vb] 76 (0, 0)) := by
              rw [h2.block q (by show q < (w1.alloc _).heap.size; simp; omega) (fun e => (Row.kind hR1 hq2 (by decide)) e.symm)]; exact hq2
            have hX3 : w'.heap[X]? = some (.cells #[.int .u8 ch.toNat, .int .i64 x, .string s, .slice ma mn mc] 62 (0, 0)) := by
              rw [h2.block X (by show X < (w1.alloc _).heap.size; simp; omega) (fun e => (Row.kind hR1 hX2 (by decide)) e.symm)]; exact hX2
            refine ⟨hR3.shape, cell_of_one hq3, free_of_one hq3, Buf.put hqB hq2 hR1 h2 hR3, (hB1.grown h2 hsz1 (fun k hk => (World.ownsRow.lt hR1 k hk).1)).setCell (p := ⟨q, 0, none⟩) hqB v', ?_⟩
            rw [Below.heap_setCell _ _ _ _ (by exact hXq)]; exact hX3
          clear hX hbl1 hB1 hq hrow hq1 hblw hbuf
          go_cut [9] (fun s9 wc => s9 = .pointer (some ⟨X, 0, none⟩) ∧ Hid (Buf B q (cur ++ [ch]) wc ∧ Below B w wc ∧ wc.heap[X]? = some (.cells #[.int .u8 ch.toNat, .int .i64 x, .string s, .slice ma mn mc] 62 (0, 0))))
          case first =>
            go_region_law (
              first
                | (refine step_append_own rfl (.tmp 23) (.tmp 26) 63 rfl B 5 i0 (.int .u8 0) 1 1 Tryd.underlying63 hi hz0 hz1 hz2 rfl (by decide) vb cur.length (Lib.byteCells cur) (by simp [Act.eval]) hR1 ⟨w1.heap.size, 0, none⟩ 1 1 [.int .u8 ch.toNat] (by simp [Act.eval]) rfl hnew (by intro u hu; simp at hu; subst hu; rfl) (by unfold maxLen; omega) (by omega) hsz1 ?_
                   intro v' w' hown' hgrow
                   obtain ⟨⟨a3, n3, c3, rfl⟩, e1, e2, hW⟩ := hgo v' w' hown' hgrow))
            all_goals (go_wp2_with fail; go_meet; exact ⟨rfl, hW⟩)
          case rest =>
            obtain ⟨rfl, hW⟩ := hcut
            clear hgo hnew c0 c1 c2 c3 a0 a1 a2 a3 hR1 hsz1
            have hW1 := hid hW.out.1
            have hW2 := hid hW.out.2.1
            have hX := hW.out.2.2
            have x0 : wc.cell? ⟨X, 0, none⟩ = some (.int .u8 ch.toNat) := by rw [cell_of_row _ _ _ _ _ _ hX]; rfl
            have x1 : wc.cell? ⟨X, 1, none⟩ = some (.int .i64 x) := by rw [cell_of_row _ _ _ _ _ _ hX]; rfl
            have x2 : wc.cell? ⟨X, 2, none⟩ = some (.string s) := by rw [cell_of_row _ _ _ _ _ _ hX]; rfl
            have x3 : wc.cell? ⟨X, 3, none⟩ = some (.slice ma mn mc) := by rw [cell_of_row _ _ _ _ _ _ hX]; rfl
            have HX := hid hX
            clear hX hW
            have hbad : ¬ (ch.toNat = 1 ∧ s.size = 0 ∧ mn = 0) → ¬ (ch.toNat = 2 ∧ x = 0 ∧ mn = 0) → ¬ (ch.toNat = 3 ∧ x = 0 ∧ s.size = 0) → Hid ((K.enc l d).2 = 1) := by
              intro h1 h2 h3
              exact K.Step.stop hS.out Hcons.out (K.one_bad (by rw [Hmn.out]; exact h1) (by rw [Hmn.out]; exact h2) h3) (by decide)
            by_cases k1 : ch = 1
            · subst k1
              have b1 : ((((1 : UInt8).toNat : Nat) : Int) == 1) = true := by rfl
              have b2 : ((((1 : UInt8).toNat : Nat) : Int) == 2) = false := by rfl
              have b3 : ((((1 : UInt8).toNat : Nat) : Int) == 3) = false := by rfl
              by_cases hs0 : s.size = 0
              · have hemp : s.toList.isEmpty = true := by rw [Lib.toList_data, List.eq_nil_of_length_eq_zero (show s.data.toList.length = 0 from hs0)]; rfl
                by_cases m0 : mn = 0
                · subst m0
                  have HO : K.one (1 : UInt8).toNat x s m.length d (K.enc m (d + 1)) = (1 :: K.cnt (K.zig x), 0) := by
                    unfold K.one; rw [if_pos ⟨rfl, hs0, Hmn.out⟩]
                  have HN : Hid (K.Step l d pre (j + 1) (cur ++ [1] ++ K.cnt (K.zig x))) := by
                    have := K.Step.next hS.out Hcons.out HO rfl
                    rw [List.append_assoc]; exact this
                  have hzb := zig_bits x y2 y3
                  have cC := count_any B q (cur ++ [1]) (K.zig x) (K.zig_lt x y2 y3) wc hW1.out (by rw [List.length_append, List.length_cons, List.length_nil]; omega)
                  clear HO hbad
                  go_wp2_with fail
                  refine cC.mono ?_
                  rintro e w2 ⟨rfl, g1, g2, _⟩
                  have HB2 := hid g1
                  have HL2 := hid (hW2.out.trans g2)
                  clear g1 g2 cC
                  go_wp2_with fail
                  go_roundw
                  case rel => exact ⟨j + 1, _, by omega, by go_num, HB2, HL2, HN⟩
                  case measure => simp [intOf]; omega
                · have m1 : ((mn : Int) == 0) = false := beq_eq_false_iff_ne.2 (by omega)
                  have HU := hbad (fun h => m0 h.2.2) (fun h => by cases h.1) (fun h => by cases h.1)
                  clear hbad
                  go_wp2_with fail
                  all_goals
                    go_ret
                    exact ⟨by rw [HU.out]; rfl, ⟨_, hW1.out, fun h => absurd h (by rw [HU.out]; decide)⟩, hW2.out⟩
              · have hemp : s.toList.isEmpty = false := by
                  rw [← decide_eq_emptyBytes]
                  exact decide_eq_false (fun h => hs0 (by rw [h]; rfl))
                have HU := hbad (fun h => hs0 h.2.1) (fun h => by cases h.1) (fun h => by cases h.1)
                clear hbad
                go_wp2_with fail
                all_goals
                  go_ret
                  exact ⟨by rw [HU.out]; rfl, ⟨_, hW1.out, fun h => absurd h (by rw [HU.out]; decide)⟩, hW2.out⟩
            · by_cases k2 : ch = 2
              · subst k2
                have b1 : ((((2 : UInt8).toNat : Nat) : Int) == 1) = false := by rfl
                have b2 : ((((2 : UInt8).toNat : Nat) : Int) == 2) = true := by rfl
                have b3 : ((((2 : UInt8).toNat : Nat) : Int) == 3) = false := by rfl
                by_cases x0 : x = 0
                · subst x0
                  by_cases m0 : mn = 0
                  · subst m0
                    have HO : K.one (2 : UInt8).toNat 0 s m.length d (K.enc m (d + 1)) = (2 :: (K.cnt s.size ++ s.data.toList), 0) := by
                      unfold K.one; rw [if_neg (fun h => by cases h.1), if_pos ⟨rfl, rfl, Hmn.out⟩]
                    have hcn := K.cntF_length 10 s.size
                    have HN : Hid (K.Step l d pre (j + 1) (cur ++ [2] ++ K.cnt s.size ++ s.data.toList)) := by
                      have := K.Step.next hS.out Hcons.out HO rfl
                      rw [List.append_assoc, List.append_assoc]; exact this
                    have hsr : s.size ≤ 100000000000000 := by
                      obtain ⟨_, _, _, h3⟩ := hS.out
                      rw [Hcons.out] at h3
                      simp only [K.Items.room] at h3; omega
                    have hsz : cur.length + s.size ≤ 100000000000000 := by
                      obtain ⟨_, _, _, h3⟩ := hS.out
                      rw [Hcons.out] at h3
                      simp only [K.Items.room] at h3; omega
                    have cC := count_any B q (cur ++ [2]) s.size (by omega) wc hW1.out (by rw [List.length_append, List.length_cons, List.length_nil]; omega)
                    clear HO hbad
                    go_wp2_with fail
                    refine cC.mono ?_
                    rintro e w2 ⟨rfl, g1, g2, g3⟩
                    have hX2 := g3 X _ HX.out (by intro e; exact hXq (Option.some.inj e)) (by intro c fz h; simp at h)
                    have x2 : w2.cell? ⟨X, 2, none⟩ = some (.string s) := by rw [cell_of_row _ _ _ _ _ _ hX2]; rfl
                    have HL2 := hid (hW2.out.trans g2)
                    have hq2 := g1.lt
                    obtain ⟨L, hL⟩ : ∃ L, cur ++ [2] ++ K.cnt s.size = L := ⟨_, rfl⟩
                    have hLl : L.length + s.size ≤ 100000000000011 := by
                      rw [← hL]
                      simp only [List.length_append, List.length_cons, List.length_nil, K.cnt]; omega
                    rw [hL] at g1 HN
                    obtain ⟨v2, _, hq, hrow⟩ := g1
                    have c0 := cell_of_one hq
                    have hgo : ∀ v' w', World.ownsRow w' B 5 1 v' (L.length + s.size) (Lib.byteCells L ++ Lib.strCells s) → w2.drew.grownBy w' v2.ownBlock →
                        (∃ a n c, v' = .slice a n c) ∧ w'.cell? ⟨q, 0, none⟩ = some v2 ∧ w'.frozen? ⟨q, 0, none⟩ = false ∧ Hid (Buf B q (L ++ s.data.toList) (w'.setCell ⟨q, 0, none⟩ v') ∧ Below B w (w'.setCell ⟨q, 0, none⟩ v')) := by
                      intro v' w' h1 h2
                      have hR3 : Row B (L ++ s.data.toList) v' w' := Row.of_append (l := L) (q := s.data.toList) h1
                      have hR2 : Row B L v2 w2.drew := World.ownsRow.drew hrow
                      have hq2' : w2.drew.heap[q]? = some (.cells #[v2] 76 (0, 0)) := hq
                      have hq3 : w'.heap[q]? = some (.cells #[v2] 76 (0, 0)) := by
                        rw [h2.block q hq2 (fun e => (Row.kind hR2 hq2' (by decide)) e.symm)]; exact hq2'
                      have hLs := HL2.out.size
                      refine ⟨hR3.shape, cell_of_one hq3, free_of_one hq3, Buf.put hqB hq2' hR2 h2 hR3, ((HL2.out.drew).grown h2 (by show B ≤ w2.heap.size; omega) (fun k hk => (World.ownsRow.lt hR2 k hk).1)).setCell (p := ⟨q, 0, none⟩) hqB v'⟩
                    have hR2 : Row B L v2 w2.drew := World.ownsRow.drew hrow
                    have hBs : B ≤ w2.drew.heap.size := by show B ≤ w2.heap.size; omega
                    clear hX2 hL hq hrow g2 g3 cC x0 x1 x3
                    go_upto_region 11 with fail
                    go_region_law (
                      first
                        | (refine step_append_str rfl (.tmp 81) (.tmp 83) 63 9 rfl B 5 i0 Tryd.underlying63 Tryd.underlying9 hi hz0 hz1 hz2 v2 L.length (Lib.byteCells L) (by simp [Act.eval]) hR2 s (by simp [Act.eval]) (by unfold maxLen; omega) (by omega) hBs ?_
                           intro v' w' hown' hgrow
                           obtain ⟨⟨a3, n3, c3, rfl⟩, e1, e2, hW⟩ := hgo v' w' hown' hgrow))
                    all_goals
                      have HB3 := hid hW.out.1
                      have HL3 := hid hW.out.2
                      clear hown' hgrow hW hgo
                      go_wp2_with fail
                      go_roundw
                      case rel => exact ⟨j + 1, _, by omega, by go_num, HB3, HL3, HN⟩
                      case measure => simp [intOf]; omega
                  · have m1 : ((mn : Int) == 0) = false := beq_eq_false_iff_ne.2 (by omega)
                    have HU := hbad (fun h => by cases h.1) (fun h => m0 h.2.2) (fun h => by cases h.1)
                    clear hbad
                    go_wp2_with fail
                    all_goals
                      go_ret
                      exact ⟨by rw [HU.out]; rfl, ⟨_, hW1.out, fun h => absurd h (by rw [HU.out]; decide)⟩, hW2.out⟩
                · have x0' : (x == 0) = false := beq_eq_false_iff_ne.2 x0
                  have HU := hbad (fun h => by cases h.1) (fun h => x0 h.2.1) (fun h => by cases h.1)
                  clear hbad
                  go_wp2_with fail
                  all_goals
                    go_ret
                    exact ⟨by rw [HU.out]; rfl, ⟨_, hW1.out, fun h => absurd h (by rw [HU.out]; decide)⟩, hW2.out⟩
              · by_cases k3 : ch = 3
                · subst k3
                  have b1 : ((((3 : UInt8).toNat : Nat) : Int) == 1) = false := by rfl
                  have b2 : ((((3 : UInt8).toNat : Nat) : Int) == 2) = false := by rfl
                  have b3 : ((((3 : UInt8).toNat : Nat) : Int) == 3) = true := by rfl
                  by_cases x0 : x = 0
                  · subst x0
                    by_cases hs0 : s.size = 0
                    · have hemp : s.toList.isEmpty = true := by rw [Lib.toList_data, List.eq_nil_of_length_eq_zero (show s.data.toList.length = 0 from hs0)]; rfl
                      by_cases d16 : d = 16
                      · subst d16
                        have HO : K.one (3 : UInt8).toNat 0 s m.length 16 (K.enc m (16 + 1)) = ([], 84) := by
                          unfold K.one; rw [if_neg (fun h => by cases h.1), if_neg (fun h => by cases h.1), if_pos ⟨rfl, rfl, hs0⟩, if_pos rfl]
                        have HU : Hid ((K.enc l 16).2 = 84) := K.Step.stop hS.out Hcons.out HO (by decide)
                        clear hbad HO
                        go_wp2_with fail
                        go_ret
                        exact ⟨by rw [HU.out]; rfl, ⟨_, hW1.out, fun h => absurd h (by rw [HU.out]; decide)⟩, hW2.out⟩
                      · have d1 : ((d : Int) == 16) = false := beq_eq_false_iff_ne.2 (by omega)
                        obtain ⟨E, hE⟩ : ∃ E, K.enc m (d + 1) = E := ⟨_, rfl⟩
                        have HO : K.one (3 : UInt8).toNat 0 s m.length d (K.enc m (d + 1)) = if E.2 = 0 then (3 :: (K.cnt mn ++ E.1), 0) else ([], E.2) := by
                          unfold K.one; rw [if_neg (fun h => by cases h.1), if_neg (fun h => by cases h.1), if_pos ⟨rfl, rfl, hs0⟩, if_neg d16, hE, Hmn.out]
                        have HN : E.2 = 0 → Hid (K.Step l d pre (j + 1) (cur ++ [3] ++ K.cnt mn ++ E.1)) := by
                          intro h
                          rw [if_pos h] at HO
                          have := K.Step.next hS.out Hcons.out HO rfl
                          rw [List.append_assoc, List.append_assoc]; exact this
                        have HU : E.2 ≠ 0 → Hid ((K.enc l d).2 = E.2) := by
                          intro h
                          rw [if_neg h] at HO
                          exact K.Step.stop (o := ([], E.2)) hS.out Hcons.out HO h
                        have hcn := K.cntF_length 10 mn
                        have hrm : cur.length + m.room + 11 ≤ 100000000000000 := by
                          obtain ⟨_, _, _, h3⟩ := hS.out
                          rw [Hcons.out] at h3
                          simp only [K.Items.room] at h3; omega
                        have hmsz : m.sz < N := by
                          have h1 := K.Items.drop_sz l j
                          rw [Hcons.out] at h1
                          simp only [K.Items.sz] at h1; omega
                        have cC := count_any B q (cur ++ [3]) mn (by omega) wc hW1.out (by rw [List.length_append, List.length_cons, List.length_nil]; omega)
                        clear HO hbad
                        go_wp2_with fail
                        refine cC.mono ?_
                        rintro e w2 ⟨rfl, g1, g2, g3⟩
                        have hX2 := g3 X _ HX.out (by intro e; exact hXq (Option.some.inj e)) (by intro c fz h; simp at h)
                        have x3 : w2.cell? ⟨X, 3, none⟩ = some (.slice ma mn mc) := by rw [cell_of_row _ _ _ _ _ _ hX2]; rfl
                        have hIn2 : m.In w2 B (.slice ma mn mc) := by
                          have h1 := hmIn.out
                          exact h1.keep (Nat.le_refl _) fun b o hlt => by
                            rw [(hW2.out.trans g2).cell (p := ⟨b, o, none⟩) hlt, hblw0.out.cell (p := ⟨b, o, none⟩) hlt]
                        have HL2 := hid (hW2.out.trans g2)
                        obtain ⟨L, hL⟩ : ∃ L, cur ++ [3] ++ K.cnt mn = L := ⟨_, rfl⟩
                        have hLl : L.length + m.room ≤ 100000000000000 := by
                          rw [← hL]
                          simp only [List.length_append, List.length_cons, List.length_nil, K.cnt]; omega
                        rw [hL] at g1 HN
                        have cI := IH.out m hmsz (.slice ma mn mc) (d + 1) B q L w2 hIn2 y6 (by omega) g1 hLl
                        rw [hE, show (((d + 1 : Nat)) : Int) = (d : Int) + 1 by omega] at cI
                        have HE := hid hE
                        clear hX2 hL g1 g2 g3 cC hIn2 hE
                        obtain ⟨E1, E2⟩ := E
                        simp only at HN HU cI
                        go_wp2_with fail
                        refine cI.mono ?_
                        rintro e w3 ⟨rfl, ⟨M, g1, g2⟩, g3⟩
                        have HL3 := hid (HL2.out.trans g3)
                        by_cases e0 : E2 = 0
                        · subst e0
                          have hM := g2 rfl
                          subst hM
                          have HN' := HN rfl
                          have HB3 := hid g1
                          clear HN HU g1 g2 g3 cI
                          go_wp2_with fail
                          go_roundw
                          case rel => exact ⟨j + 1, _, by omega, by go_num, HB3, HL3, HN'⟩
                          case measure => simp [intOf]; omega
                        · have HU' := HU e0
                          have e1 : (E2 == 0) = false := beq_eq_false_iff_ne.2 e0
                          have e2 : (E2 != 0) = true := by rw [bne, e1]; rfl
                          have HB3 := hid g1
                          have he0 := hid e0
                          clear HN HU g1 g2 g3 cI e0
                          go_wp2_with fail
                          go_ret
                          exact ⟨by rw [HU'.out]; rfl, ⟨_, HB3.out, fun h => absurd h (by rw [HU'.out]; exact he0.out)⟩, HL3.out⟩
                    · have hemp : s.toList.isEmpty = false := by
                        rw [← decide_eq_emptyBytes]
                        exact decide_eq_false (fun h => hs0 (by rw [h]; rfl))
                      have HU := hbad (fun h => by cases h.1) (fun h => by cases h.1) (fun h => hs0 h.2.2)
                      clear hbad
                      go_wp2_with fail
                      all_goals
                        go_ret
                        exact ⟨by rw [HU.out]; rfl, ⟨_, hW1.out, fun h => absurd h (by rw [HU.out]; decide)⟩, hW2.out⟩
                  · have x0' : (x == 0) = false := beq_eq_false_iff_ne.2 x0
                    have HU := hbad (fun h => by cases h.1) (fun h => by cases h.1) (fun h => x0 h.2.1)
                    clear hbad
                    go_wp2_with fail
                    all_goals
                      go_ret
                      exact ⟨by rw [HU.out]; rfl, ⟨_, hW1.out, fun h => absurd h (by rw [HU.out]; decide)⟩, hW2.out⟩
                · have k1' : ch.toNat ≠ 1 := fun h => k1 (UInt8.toNat_inj.1 h)
                  have k2' : ch.toNat ≠ 2 := fun h => k2 (UInt8.toNat_inj.1 h)
                  have k3' : ch.toNat ≠ 3 := fun h => k3 (UInt8.toNat_inj.1 h)
                  have b1 : ((ch.toNat : Int) == 1) = false := beq_eq_false_iff_ne.2 (by omega)
                  have b2 : ((ch.toNat : Int) == 2) = false := beq_eq_false_iff_ne.2 (by omega)
                  have b3 : ((ch.toNat : Int) == 3) = false := beq_eq_false_iff_ne.2 (by omega)
                  have HU := hbad (fun h => k1' h.1) (fun h => k2' h.1) (fun h => k3' h.1)
                  clear hbad
                  go_wp2_with fail
                  all_goals
                    go_ret
                    exact ⟨by rw [HU.out]; rfl, ⟨_, hW1.out, fun h => absurd h (by rw [HU.out]; decide)⟩, hW2.out⟩
        · obtain rfl : j = n := by omega
          have hl0 : decide ((j : Int) < (j : Int)) = false := by simp
          obtain ⟨h1, h2⟩ := hS.out.done (by rw [Hn.out]; exact Nat.le_refl _)
          have HE := hid h1
          have HC := hid h2
          clear h1 h2
          go_wp2_with fail
          go_ret
          exact ⟨by rw [HE.out]; rfl, ⟨cur, hb.out, fun _ => HC.out⟩, hbl.out⟩


end Go.Proofs.YtfadnhihcobclaaDoor
