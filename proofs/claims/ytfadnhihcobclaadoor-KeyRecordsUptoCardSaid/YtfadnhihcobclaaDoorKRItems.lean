/- The walks of the reference's items and Encode. -/
import Derived.Test.YtfadnhihcobclaaDoorKRCount
import Derived.Test.YtfadnhihcobclaaDoorKEncode
import Derived.Test.YtfadnhihcobclaaDoorKTheirs
import Derived.Test.YtfadnhihcobclaaDoorRow4
import Derived.Deep.RegionHeld3
import Derived.Deep.DeepCutAuto
namespace Go.Proofs.YtfadnhihcobclaaDoor
open Go.RowKit
open Go.Lib (hid)
theorem row_form {B : Nat} {m : List UInt8} {v : Value} {w : World} (h : Row B m v w) (hm : 1 ≤ m.length) : ∃ g cap, v = .slice (some ⟨g, 0, none⟩) m.length cap := by
  obtain ⟨g, cap, rfl, _⟩ := World.ownsRow.form h hm
  exact ⟨g, cap, rfl⟩
theorem row_news {B g cap : Nat} {m : List UInt8} {w : World} (h : Row B m (.slice (some ⟨g, 0, none⟩) m.length cap) w) : ∀ j u, (Lib.byteCells m)[j]? = some u → w.cell? ((⟨g, 0, none⟩ : Addr).add j) = some u := World.ownsRow.cells h rfl
theorem byte_one (m : List UInt8) : ∀ u ∈ Lib.byteCells m, u.oneCell' = true := by
  intro u hu
  unfold Lib.byteCells at hu
  obtain ⟨c, _, rfl⟩ := List.mem_map.1 hu
  rfl
/-- append(b, c...), c of bytes of the call's own -/
theorem wpList_appR {ops : Array Oper} {rest : List Oper} {o : Oper} {a : Act} {Q : Exit → Act → World → Prop} {w : World} (hgd : o.guard = none) (s x : Operand)
    (ho : o.op = .call { callee := .builtin .append, args := #[s, x], argTypes := #[63, 63] }) (B B2 : Nat) (l m : List UInt8) (v : Value) (g cap : Nat) (hs : a.eval s = v) (hx : a.eval x = .slice (some ⟨g, 0, none⟩) m.length cap)
    (hR : Row B l v w) (hM : Row B2 m (.slice (some ⟨g, 0, none⟩) m.length cap) w) (hl : l.length + m.length ≤ 110000000000000) (hB : B ≤ w.heap.size)
    (h : ∀ v' w', Row B (l ++ m) v' w' → w.grownBy w' v.ownBlock → wpList Tryd.prog ops Q rest (a.put o.dst v') w') : wpList Tryd.prog ops Q (o :: rest) a w := by
  obtain ⟨i0, hi, hz0, hz1, hz2⟩ := info_parts infoByte
  refine wpList_append_own _ hgd s x 63 ho B 5 i0 (.int .u8 0) 1 1 Tryd.underlying63 hi hz0 hz1 hz2 rfl (by decide) v l.length (Lib.byteCells l) hs hR ⟨g, 0, none⟩ m.length cap (Lib.byteCells m) hx (by unfold Lib.byteCells; simp) (row_news hM) (byte_one m) (by unfold maxLen; omega) (by omega) hB ?_
  intro v' w' h1 h2 _
  exact h v' w' (Row.of_append (l := l) (q := m) h1) h2
theorem step_appR {ops : Array Oper} {o : Oper} {a : Act} {K' : Act → World → Prop} {Q : Exit → Act → World → Prop} {E : Prop} {w : World} (hgd : o.guard = none) (s x : Operand)
    (ho : o.op = .call { callee := .builtin .append, args := #[s, x], argTypes := #[63, 63] }) (B B2 : Nat) (l m : List UInt8) (v : Value) (g cap : Nat) (hs : a.eval s = v) (hx : a.eval x = .slice (some ⟨g, 0, none⟩) m.length cap)
    (hR : Row B l v w) (hM : Row B2 m (.slice (some ⟨g, 0, none⟩) m.length cap) w) (hl : l.length + m.length ≤ 110000000000000) (hB : B ≤ w.heap.size)
    (h : ∀ v' w', Row B (l ++ m) v' w' → w.grownBy w' v.ownBlock → K' (a.put o.dst v') w') : if Region.wanted o (yielded ops a.tmps) = true then Oper.wp Tryd.prog o a w K' Q else E := by
  obtain ⟨i0, hi, hz0, hz1, hz2⟩ := info_parts infoByte
  refine step_append_own hgd s x 63 ho B 5 i0 (.int .u8 0) 1 1 Tryd.underlying63 hi hz0 hz1 hz2 rfl (by decide) v l.length (Lib.byteCells l) hs hR ⟨g, 0, none⟩ m.length cap (Lib.byteCells m) hx (by unfold Lib.byteCells; simp) (row_news hM) (byte_one m) (by unfold maxLen; omega) (by omega) hB ?_
  intro v' w' h1 h2
  exact h v' w' (Row.of_append (l := l) (q := m) h1) h2
theorem step_strR {ops : Array Oper} {o : Oper} {a : Act} {K' : Act → World → Prop} {Q : Exit → Act → World → Prop} {E : Prop} {w : World} (hgd : o.guard = none) (sl x : Operand)
    (ho : o.op = .call { callee := .builtin .append, args := #[sl, x], argTypes := #[63, 9] }) (B : Nat) (l : List UInt8) (s : ByteArray) (v : Value) (hs : a.eval sl = v) (hx : a.eval x = .string s)
    (hR : Row B l v w) (hl : l.length + s.size ≤ 110000000000000) (hB : B ≤ w.heap.size)
    (h : ∀ v' w', Row B (l ++ s.data.toList) v' w' → w.grownBy w' v.ownBlock → K' (a.put o.dst v') w') : if Region.wanted o (yielded ops a.tmps) = true then Oper.wp Tryd.prog o a w K' Q else E := by
  obtain ⟨i0, hi, hz0, hz1, hz2⟩ := info_parts infoByte
  refine step_append_str hgd sl x 63 9 ho B 5 i0 Tryd.underlying63 Tryd.underlying9 hi hz0 hz1 hz2 v l.length (Lib.byteCells l) hs hR s hx (by unfold maxLen; omega) (by omega) hB ?_
  intro v' w' h1 h2
  exact h v' w' (Row.of_append (l := l) (q := s.data.toList) h1) h2
theorem cellD {w2 w3 : World} {X i : Nat} {v : Value} (hcb : Below w2.drew.heap.size w2.drew w3) (hl : X < w2.heap.size) (h : w2.cell? ⟨X, i, none⟩ = some v) : w3.cell? ⟨X, i, none⟩ = some v := (hcb.cell (p := ⟨X, i, none⟩) hl).trans h
theorem ltD {w2 w3 : World} {X : Nat} (hcb : Below w2.drew.heap.size w2.drew w3) (hl : X < w2.heap.size) : X < w3.heap.size := Nat.lt_of_lt_of_le hl hcb.size
theorem cellStep {w w' : World} {row : Option Nat} {X i : Nat} {v : Value} (hg : w.grownBy w' row) (hl : X < w.heap.size) (hne : row ≠ some X) (h : w.cell? ⟨X, i, none⟩ = some v) : w'.cell? ⟨X, i, none⟩ = some v := (hg.cell_far ⟨X, i, none⟩ hl (Ne.symm hne)).trans h
theorem rowX {X : Nat} {o : Obj} {w2 w3 w4 : World} {row : Option Nat} (hcb : Below w2.drew.heap.size w2.drew w3) (hg : w3.grownBy w4 row) (h : w2.heap[X]? = some o) (hne : row ≠ some X) : w4.heap[X]? = some o := by
  have hl := Go.lt_of_block h
  rw [hg.block X (Nat.lt_of_lt_of_le hl hcb.size) (fun e => hne e.symm), hcb.block X hl]; exact h
theorem inStep {B : Nat} {m : K.Items} {v v2 : Value} {l : List UInt8} {w2 w3 w4 : World} (h : m.In w2 B v) (hB : B ≤ w2.heap.size) (hcb : Below w2.drew.heap.size w2.drew w3) (hg : w3.grownBy w4 v2.ownBlock) (hR : Row B l v2 w2) : m.In w4 B v :=
  h.below (w := w2) (((Below.refl B w2).drew.trans (hcb.mono hB)).grown hg (Nat.le_trans hB hcb.size) (fun k hk => (World.ownsRow.lt hR k hk).1))
/-- all blocks but rows of bytes stand -/
def Keep0 (w w' : World) : Prop := Lib.OthersKept 5 none w w'
theorem Keep0.below {a w w' : World} (h : Keep0 a w) (b : Below w.heap.size w w') : Keep0 a w' := by
  intro k x hk hb hx
  have h1 := h k x hk hb hx
  rw [b.block k (Go.lt_of_block h1)]; exact h1
theorem Keep0.belowD {a w w' : World} (h : Keep0 a w) (b : Below w.drew.heap.size w.drew w') : Keep0 a w' := by
  intro k x hk hb hx
  have h1 := h k x hk hb hx
  rw [b.block k (Go.lt_of_block h1)]; exact h1
theorem Keep0.grown {B : Nat} {l : List UInt8} {v : Value} {a w w' : World} (h : Keep0 a w) (hg : w.grownBy w' v.ownBlock) (hR : Row B l v w) : Keep0 a w' := Lib.OthersKept.grown h hg (Row.lies hR)
theorem keepX {w w' : World} {X : Nat} {x y z u : Value} {t : TypeId} (h : Keep0 w w') (hx : w.heap[X]? = some (.cells #[x, y, z, u] t (0, 0))) (ht : t ≠ 5) : w'.cell? ⟨X, 3, none⟩ = some u :=
  (row4 (h X _ hx (by simp) (by intro c fz e; simp only [Obj.cells.injEq] at e; exact ht e.2.1))).2.2.2
theorem wrap_d (d : Nat) (h : d + 1 ≤ 17) : wrap64 ((d : Int) + 1) = (d : Int) + 1 ∧ IntKind.i64.wrap ((d : Int) + 1) = (d : Int) + 1 := by
  refine ⟨?_, ?_⟩
  · unfold wrap64; omega
  · rw [IntKind.wrap_i64]; omega
theorem wrap_u (n : Nat) (h : n ≤ 9223372036854775807) : IntKind.u64.wrap (n : Int) = (n : Int) := by rw [IntKind.wrap_u64]; omega
def RIOf (l : K.Items) (d B : Nat) (pre : List UInt8) (w : World) (e : Ending) (w' : World) : Prop :=
  ∃ v, e = .returned (.tuple #[v, .int .i64 (K.enc l d).2]) ∧ ((K.enc l d).2 = 0 → Row B (pre ++ (K.enc l d).1) v w') ∧ Below B w w' ∧ Keep0 w w'
theorem rio_bad {l : K.Items} {d B : Nat} {pre : List UInt8} {w w' : World} {er : Int} (h : (K.enc l d).2 = er) (hne : er ≠ 0) (b : Below B w w') (k : Keep0 w w') : RIOf l d B pre w (.returned (.tuple #[.slice none 0 0, .int .i64 er])) w' :=
  ⟨_, by rw [h], fun h0 => absurd (h.symm.trans h0) hne, b, k⟩
theorem zig_pos (x : Int) (h : ¬ x < 0) : x * 2 = ((K.zig x : Nat) : Int) := by
  unfold K.zig
  rw [if_pos (by omega)]
  omega
theorem zig_neg (x : Int) (h : x < 0) (h0 : -9223372036854775808 ≤ x) : ∃ p q : Nat, IntKind.u64.wrap x = (p : Int) ∧ IntKind.u64.wrap ((p : Int) * 2) = (q : Int) ∧ q < 18446744073709551616 ∧
    bits .xor .u64 IntKind.u64.max (q : Int) = ((K.zig x : Nat) : Int) := by
  obtain ⟨m, hm⟩ := Int.eq_ofNat_of_zero_le (show 0 ≤ -x by omega)
  refine ⟨18446744073709551616 - m, 18446744073709551616 - 2 * m, ?_, ?_, by omega, ?_⟩
  · rw [IntKind.wrap_u64]; omega
  · rw [IntKind.wrap_u64]; omega
  · show bits .xor .u64 18446744073709551615 _ = _
    have := bits_xor_u64_nat 18446744073709551615 (18446744073709551616 - 2 * m) (by decide) (by omega)
    rw [show (((18446744073709551615 : Nat)) : Int) = 18446744073709551615 from rfl, Nat.xor_comm, xor_ones _ (by omega)] at this
    rw [this]
    unfold K.zig
    rw [if_neg (by omega)]
    omega
set_option maxRecDepth 100000 in
set_option maxHeartbeats 16000000 in
theorem refItems_any : ∀ (N : Nat) (l : K.Items) (_ : l.sz < N) (bv v : Value) (d B : Nat) (pre : List UInt8) (w : World) (_ : l.In w B v) (_ : l.may) (_ : d ≤ 16) (_ : Row B pre bv w) (_ : B ≤ w.heap.size) (_ : pre.length + l.room ≤ 100000000000000),
    Calls Tryd.prog 41 #[bv, v, .int .i64 d] w (RIOf l d B pre w) := by
  intro N
  induction N with
  | zero => intro l hN; omega
  | succ N ih =>
    intro l hN bv v d B pre w hv hm hd hb hBs hr
    have IH := hid ih
    clear ih
    have HV := hid hv
    obtain ⟨n, hn⟩ : ∃ n, l.length = n := ⟨_, rfl⟩
    obtain ⟨xa, c, hsv⟩ : ∃ xa c, v = .slice xa n c := by
      rcases hv with ⟨a9, c9, rfl, rfl⟩ | ⟨b, o, c, rfl, _⟩
      · exact ⟨a9, c9, by rw [← hn]; rfl⟩
      · exact ⟨_, c, by rw [hn]⟩
    subst hsv
    have hlen : n ≤ 100000000000000 := by
      have := K.Items.room_length l
      omega
    have Hn := hid hn
    have HB := hid hb
    clear hn hv hb
    go_enter Tryd.func41, Tryd.ntmps41
    go_wp2_with fail
    go_loopw [0, 8] (fun bv' i wr => ∃ (j : Nat) (cur : List UInt8), j ≤ n ∧ i = .int .i64 j ∧ Hid (Row B cur bv' wr) ∧ Hid (Below B w wr) ∧ Hid (Keep0 w wr) ∧ Hid (K.Step l d pre j cur)) (fun _ i _ => n - (intOf i).toNat)
    case atStart => exact ⟨0, pre, by omega, rfl, HB, Below.refl _ _, Lib.OthersKept.refl _ _ _, K.Step.start l d pre⟩
    case round =>
      obtain ⟨j, cur, hj, rfl, hb, hbl, hK, hS⟩ := hrel
      clear HB
      have hBw := hbl.out.size
      by_cases hlt : j < n
      · have hl0 : decide ((j : Int) < (n : Int)) = true := by simp; omega
        have hj0 : (0 : Int) ≤ (j : Int) := by omega
        have hj1 : (j : Int) < (n : Int) := by omega
        obtain ⟨k, x, s, m, r, hcons⟩ := K.Items.cons_of_pos (l.drop j) (by rw [K.Items.drop_length]; have := Hn.out; omega)
        rcases HV.out with ⟨_, _, e, h0⟩ | ⟨b, o, c', e, hA0⟩
        · have := Hn.out; rw [h0] at this; simp [K.Items.length] at this; omega
        simp only [Value.slice.injEq] at e
        obtain ⟨rfl, hnl, rfl⟩ := e
        clear hnl
        have hA := K.Items.At.drop l j o (hA0.below hbl.out)
        rw [hcons] at hA
        obtain ⟨hbB, a0, a1, a2, ⟨mv, a3, hmv⟩, _⟩ := hA
        have hmay := K.Items.may.drop l j hm
        rw [hcons] at hmay
        obtain ⟨y1, y2, y3, y4, y5, y6, _⟩ := hmay
        rw [Nat.mul_comm 4 j] at a0 a1 a2 a3
        have hmIn : Hid (K.Items.In wr B m mv) := hmv
        obtain ⟨ma, mc, rfl⟩ : ∃ ma mc, mv = .slice ma m.length mc := by
          rcases hmv with ⟨_, _, rfl, rfl⟩ | ⟨b', o', c', rfl, _⟩
          · exact ⟨_, _, rfl⟩
          · exact ⟨_, _, rfl⟩
        obtain ⟨mn, hmn⟩ : ∃ mn, m.length = mn := ⟨_, rfl⟩
        rw [hmn] at a3 hmIn y5
        have Hmn := hid hmn
        obtain ⟨ch, rfl⟩ : ∃ ch : UInt8, k = ch.toNat := ⟨UInt8.ofNat k, by rw [UInt8.toNat_ofNat']; omega⟩
        have Hcons := hid hcons
        have hroomj : cur.length + (11 + s.size + m.room) ≤ 100000000000000 := by
          obtain ⟨_, _, _, h3⟩ := hS.out
          rw [hcons] at h3
          simp only [K.Items.room] at h3
          omega
        have hcl : cur.length ≤ 100000000000000 := by omega
        have hBs' : B ≤ wr.heap.size := by omega
        clear hmn hcons hmv hA0
        go_upto_region 5 with fail
        have HXa := hid (heap_alloc_new wr (.cells #[.int .u8 ch.toNat, .int .i64 x, .string s, .slice ma mn mc] 74))
        have HRa : Hid (Row B cur u0 (wr.alloc (.cells #[.int .u8 ch.toNat, .int .i64 x, .string s, .slice ma mn mc] 74))) := World.ownsRow.alloc hb.out _
        have HBa := hid (hbl.out.alloc hBs' (.cells #[.int .u8 ch.toNat, .int .i64 x, .string s, .slice ma mn mc] 74))
        have HKa : Hid (Keep0 w (wr.alloc (.cells #[.int .u8 ch.toNat, .int .i64 x, .string s, .slice ma mn mc] 74))) := Lib.OthersKept.alloc hK.out _
        have HMa := hid (hmIn.out.below (w' := wr.alloc (.cells #[.int .u8 ch.toNat, .int .i64 x, .string s, .slice ma mn mc] 74)) ((Below.refl B wr).alloc hBs' _))
        clear a0 a1 a2 a3 hmIn hb hbl hK
        have hsz1 : wr.heap.size < (wr.alloc (.cells #[.int .u8 ch.toNat, .int .i64 x, .string s, .slice ma mn mc] 74)).heap.size := by simp
        generalize World.alloc wr _ = w1 at HXa HRa HBa HMa HKa hsz1 ⊢
        obtain ⟨X, hX⟩ : ∃ X, wr.heap.size = X := ⟨_, rfl⟩
        rw [hX] at HXa hsz1 hBs' ⊢
        clear hX hBw
        obtain ⟨b0, b1, b2, b3⟩ := row4 HXa.out
        have hR0 : Row B cur u0 (w1.alloc (.cells #[.int .u8 ch.toNat] 5)) := World.ownsRow.alloc HRa.out _
        have hg0 := heap_alloc_new w1 (.cells #[.int .u8 ch.toNat] 5)
        have hXq : (w1.alloc (.cells #[.int .u8 ch.toNat] 5)).heap[X]? = some (.cells #[.int .u8 ch.toNat, .int .i64 x, .string s, .slice ma mn mc] 74 (0, 0)) := by
          rw [Lib.alloc_old _ _ _ hsz1]; exact HXa.out
        have HXq := hid hXq
        have HNq := hid (Row.kind hR0 hXq (by decide))
        clear hXq
        go_upto_region 6 with (at_builtin; refine wpList_push rfl _ _ rfl B cur ch _ w1.heap.size rfl hR0 rfl hg0 hcl (by simp; omega) ?_)
        intro v2 w2 hR2 hgrow
        have HB2 := hid ((HBa.out.alloc (by omega) (.cells #[.int .u8 ch.toNat] 5)).grown hgrow (by simp; omega) (fun k hk => (World.ownsRow.lt HRa.out k hk).1))
        have HX2 : Hid (w2.heap[X]? = some (.cells #[.int .u8 ch.toNat, .int .i64 x, .string s, .slice ma mn mc] 74 (0, 0))) := by
          show _ = _
          rw [hgrow.block X (by simp; omega) (fun e => HNq.out e.symm)]; exact HXq.out
        have HM2 := hid (HMa.out.below (((Below.refl B w1).alloc (by omega) (.cells #[.int .u8 ch.toNat] 5)).grown hgrow (by simp; omega) (fun k hk => (World.ownsRow.lt HRa.out k hk).1)))
        have HK2 : Hid (Keep0 w w2) := Keep0.grown (Lib.OthersKept.alloc HKa.out _) hgrow hR0
        have HR2 := hid hR2
        have hsz2 : X < w2.heap.size := Go.lt_of_block HX2.out
        clear hgrow hR2 hR0 hg0 HXq HNq HXa HRa HBa HMa HKa b0 b1 b2 b3
        obtain ⟨b0, b1, b2, b3⟩ := row4 HX2.out
        have hbad : ¬ (ch.toNat = 1 ∧ s.size = 0 ∧ mn = 0) → ¬ (ch.toNat = 2 ∧ x = 0 ∧ mn = 0) → ¬ (ch.toNat = 3 ∧ x = 0 ∧ s.size = 0) → Hid ((K.enc l d).2 = 1) := by
          intro h1 h2 h3
          exact K.Step.stop hS.out Hcons.out (K.one_bad (by rw [Hmn.out]; exact h1) (by rw [Hmn.out]; exact h2) h3) (by decide)
        by_cases k1 : ch = 1
        · subst k1
          have b5 : (((1 : UInt8).toNat : Int) == 1) = true := by rfl
          have b6 : (((1 : UInt8).toNat : Int) == 2) = false := by rfl
          have b7 : (((1 : UInt8).toNat : Int) == 3) = false := by rfl
          by_cases hs0 : s.size = 0
          · have hemp : s.toList.isEmpty = true := by rw [Lib.toList_data, List.eq_nil_of_length_eq_zero (show s.data.toList.length = 0 from hs0)]; rfl
            by_cases m0 : mn = 0
            · subst m0
              have HO : K.one (1 : UInt8).toNat x s m.length d (K.enc m (d + 1)) = (1 :: K.cnt (K.zig x), 0) := by
                unfold K.one; rw [if_pos ⟨rfl, hs0, Hmn.out⟩]
              have HN : Hid (K.Step l d pre (j + 1) (cur ++ [1] ++ K.cnt (K.zig x))) := by
                have := K.Step.next hS.out Hcons.out HO rfl
                rw [List.append_assoc]; exact this
              have cC := rcount_any (K.zig x) (K.zig_lt x y2 y3)
              have hcz := K.cntF_length 10 (K.zig x)
              have hcp : 1 ≤ (K.cnt (K.zig x)).length := by unfold K.cnt K.cntF; split <;> simp
              have HCL := hid (p := (cur ++ [1]).length + (K.cnt (K.zig x)).length ≤ 110000000000000) (by rw [List.length_append, List.length_cons, List.length_nil]; unfold K.cnt; omega)
              clear HO hbad hcz
              by_cases hx0 : x < 0
              · have q0 : decide (x < 0) = true := decide_eq_true hx0
                obtain ⟨zp, zq, hz1, hz2, hz3, hz4⟩ := zig_neg x hx0 y2
                go_wp2_with fail
                refine (cC _).mono ?_
                rintro e w3 ⟨cv, rfl, hcr, hcb⟩
                have HB3 := hid (HB2.out.trans (hcb.mono (by omega)))
                have HK3 := hid (HK2.out.below hcb)
                have hR3 : Row B (cur ++ [1]) v2 w3 := HR2.out.below hcb
                have HR3 := hid hR3
                have hsz3 := hcb.size
                obtain ⟨g, cap, hcv⟩ := row_form hcr hcp
                subst hcv
                have hCL := HCL.out
                clear cC hcb b0 b1 b2 b3 hcp
                go_wp2_with (at_builtin; refine wpList_appR rfl _ _ rfl B _ (cur ++ [1]) (K.cnt (K.zig x)) v2 g cap rfl rfl hR3 hcr hCL (by omega) ?_)
                intro v4 w4 hR4 hgrow
                have HK4 := hid (HK3.out.grown hgrow hR3)
                have HB4 := hid (HB3.out.grown hgrow (by omega) (fun k hk => (World.ownsRow.lt HR3.out k hk).1))
                have HR4 : Hid (Row B (cur ++ [1] ++ K.cnt (K.zig x)) v4 w4) := by show Row _ _ _ _; simpa using hR4
                clear hgrow hR4 hR3 hcr hCL
                go_wp2_with fail
                go_roundw
                case rel => exact ⟨j + 1, _, by omega, by go_num, HR4, HB4, HK4, HN⟩
                case measure => simp [intOf] <;> omega
              · have q0 : decide (x < 0) = false := decide_eq_false hx0
                have hz1 := zig_pos x hx0
                go_wp2_with fail
                refine (cC _).mono ?_
                rintro e w3 ⟨cv, rfl, hcr, hcb⟩
                have HB3 := hid (HB2.out.trans (hcb.mono (by omega)))
                have HK3 := hid (HK2.out.below hcb)
                have hR3 : Row B (cur ++ [1]) v2 w3 := HR2.out.below hcb
                have HR3 := hid hR3
                have hsz3 := hcb.size
                obtain ⟨g, cap, hcv⟩ := row_form hcr hcp
                subst hcv
                have hCL := HCL.out
                clear cC hcb b0 b1 b2 b3 hcp
                go_wp2_with (at_builtin; refine wpList_appR rfl _ _ rfl B _ (cur ++ [1]) (K.cnt (K.zig x)) v2 g cap rfl rfl hR3 hcr hCL (by omega) ?_)
                intro v4 w4 hR4 hgrow
                have HK4 := hid (HK3.out.grown hgrow hR3)
                have HB4 := hid (HB3.out.grown hgrow (by omega) (fun k hk => (World.ownsRow.lt HR3.out k hk).1))
                have HR4 : Hid (Row B (cur ++ [1] ++ K.cnt (K.zig x)) v4 w4) := by show Row _ _ _ _; simpa using hR4
                clear hgrow hR4 hR3 hcr hCL
                go_wp2_with fail
                go_roundw
                case rel => exact ⟨j + 1, _, by omega, by go_num, HR4, HB4, HK4, HN⟩
                case measure => simp [intOf] <;> omega
            · have m1 : ((mn : Int) != 0) = true := by rw [bne_iff_ne]; omega
              have HU := hbad (fun h => m0 h.2.2) (fun h => by cases h.1) (fun h => by cases h.1)
              clear hbad
              go_wp2_with fail
              all_goals
                go_ret2
                exact rio_bad HU.out (by decide) HB2.out HK2.out
          · have hemp : s.toList.isEmpty = false := by
              rw [← decide_eq_emptyBytes]
              exact decide_eq_false (fun h => hs0 (by rw [h]; rfl))
            have HU := hbad (fun h => hs0 h.2.1) (fun h => by cases h.1) (fun h => by cases h.1)
            clear hbad
            go_wp2_with fail
            all_goals
              go_ret2
              exact rio_bad HU.out (by decide) HB2.out HK2.out
        · by_cases k2 : ch = 2
          · subst k2
            have b5 : (((2 : UInt8).toNat : Int) == 1) = false := by rfl
            have b6 : (((2 : UInt8).toNat : Int) == 2) = true := by rfl
            have b7 : (((2 : UInt8).toNat : Int) == 3) = false := by rfl
            by_cases x0 : x = 0
            · subst x0
              by_cases m0 : mn = 0
              · subst m0
                have HO : K.one (2 : UInt8).toNat 0 s m.length d (K.enc m (d + 1)) = (2 :: (K.cnt s.size ++ s.data.toList), 0) := by
                  unfold K.one; rw [if_neg (fun h => by cases h.1), if_pos ⟨rfl, rfl, Hmn.out⟩]
                have HN : Hid (K.Step l d pre (j + 1) (cur ++ [2] ++ K.cnt s.size ++ s.data.toList)) := by
                  have := K.Step.next hS.out Hcons.out HO rfl
                  rw [List.append_assoc, List.append_assoc]; exact this
                have cC := rcount_any s.size (by omega)
                have hcz := K.cntF_length 10 s.size
                have hcp : 1 ≤ (K.cnt s.size).length := by unfold K.cnt K.cntF; split <;> simp
                have HCL := hid (p := (cur ++ [2]).length + (K.cnt s.size).length + s.size ≤ 110000000000000) (by rw [List.length_append, List.length_cons, List.length_nil]; unfold K.cnt; omega)
                clear HO hbad hcz
                go_upto_region 18 with fail
                have HNX := hid (Row.kind HR2.out HX2.out (by decide))
                have hw1 := wrap_u s.size (by omega)
                clear b0 b1 b3
                go_region_held3 (fun w' => w'.cell? ⟨X, 2, none⟩ = some (.string s))
                    (first
                      | assumption
                      | with_reducible exact cellD hcb hsz2 b2
                      | with_reducible exact cellStep hg4 (ltD hcb hsz2) HNX.out (cellD hcb hsz2 b2)
                      | with_reducible exact cellStep hg5 (Nat.lt_of_lt_of_le (ltD hcb hsz2) hg4.size) (Row.kind hR4 (rowX hcb hg4 HX2.out HNX.out) (by decide)) (cellStep hg4 (ltD hcb hsz2) HNX.out (cellD hcb hsz2 b2))
                      | fail)
                    (first
                      | (go_at_call 52; refine (cC _).mono ?_; rintro e w3 ⟨cv, rfl, hcr, hcb⟩; obtain ⟨g, cap, hcv⟩ := row_form hcr hcp; subst hcv)
                      | (refine step_strR (by rfl) (.tmp 71) (.tmp 73) (by rfl) B _ s v4 (by rfl) (by rfl) hR4 (by rw [List.length_append]; exact HCL.out) (Nat.le_trans (Nat.le_trans (show B ≤ w2.heap.size by omega) hcb.size) hg4.size) ?_; intro v5 w5 hR5 hg5)
                      | (refine step_appR (by rfl) (.tmp 65) (.tmp 70) (by rfl) B _ (cur ++ [2]) (K.cnt s.size) v2 g cap (by rfl) (by rfl) (Row.below (World.ownsRow.drew HR2.out) hcb) hcr (Nat.le_trans (Nat.le_add_right _ _) HCL.out) (Nat.le_trans (show B ≤ w2.heap.size by omega) hcb.size) ?_; intro v4 w4 hR4 hg4))
                all_goals
                    have hG : Hid (Row B (cur ++ [2] ++ K.cnt s.size ++ s.data.toList) v5 w5 ∧ Below B w w5) := ⟨hR5, ((HB2.out.drew.trans (hcb.mono (by show B ≤ w2.heap.size; omega))).grown hg4 (Nat.le_trans (show B ≤ w2.heap.size by omega) hcb.size) (fun k hk => (World.ownsRow.lt HR2.out k hk).1)).grown hg5 (Nat.le_trans (Nat.le_trans (show B ≤ w2.heap.size by omega) hcb.size) hg4.size) (fun k hk => (World.ownsRow.lt hR4 k hk).1)⟩
                    have HK5 : Hid (Keep0 w w5) := Keep0.grown (Keep0.grown (HK2.out.belowD hcb) hg4 (Row.below (World.ownsRow.drew HR2.out) hcb)) hg5 hR4
                    clear hR5 hR4 hg4 hg5 hcb hcr
                    go_split_ands
                    have HR5 := hid hG.out.1
                    have HB5 := hid hG.out.2
                    clear hG
                    go_wp2_with fail
                    go_roundw
                    case rel => exact ⟨j + 1, _, by omega, by go_num, HR5, HB5, HK5, HN⟩
                    case measure => simp [intOf] <;> omega
              · have m1 : ((mn : Int) != 0) = true := by rw [bne_iff_ne]; omega
                have HU := hbad (fun h => by cases h.1) (fun h => m0 h.2.2) (fun h => by cases h.1)
                clear hbad
                go_wp2_with fail
                all_goals
                  go_ret2
                  exact rio_bad HU.out (by decide) HB2.out HK2.out
            · have x1 : (x != 0) = true := by rw [bne_iff_ne]; exact x0
              have HU := hbad (fun h => by cases h.1) (fun h => x0 h.2.1) (fun h => by cases h.1)
              clear hbad
              go_wp2_with fail
              all_goals
                go_ret2
                exact rio_bad HU.out (by decide) HB2.out HK2.out
          · by_cases k3 : ch = 3
            · subst k3
              have b5 : (((3 : UInt8).toNat : Int) == 1) = false := by rfl
              have b6 : (((3 : UInt8).toNat : Int) == 2) = false := by rfl
              have b7 : (((3 : UInt8).toNat : Int) == 3) = true := by rfl
              by_cases x0 : x = 0
              · subst x0
                by_cases hs0 : s.size = 0
                · have hemp : s.toList.isEmpty = true := by rw [Lib.toList_data, List.eq_nil_of_length_eq_zero (show s.data.toList.length = 0 from hs0)]; rfl
                  by_cases d16 : d = 16
                  · subst d16
                    have hd16 : (((16 : Nat) : Int) == 16) = true := rfl
                    have HU : Hid ((K.enc l 16).2 = 84) := K.Step.stop hS.out Hcons.out (o := ([], 84)) (by unfold K.one; rw [if_neg (fun h => by cases h.1), if_neg (fun h => by cases h.1), if_pos ⟨rfl, rfl, hs0⟩, if_pos rfl]) (by decide)
                    clear hbad
                    go_wp2_with fail
                    go_ret2
                    exact rio_bad HU.out (by decide) HB2.out HK2.out
                  · have hd16 : ((d : Int) == 16) = false := beq_eq_false_iff_ne.2 (by omega)
                    obtain ⟨I, hI⟩ : ∃ I, K.enc m (d + 1) = I := ⟨_, rfl⟩
                    have HO : K.one (3 : UInt8).toNat 0 s m.length d (K.enc m (d + 1)) = if I.2 = 0 then (3 :: (K.cnt mn ++ I.1), 0) else ([], I.2) := by
                      unfold K.one; rw [if_neg (fun h => by cases h.1), if_neg (fun h => by cases h.1), if_pos ⟨rfl, rfl, hs0⟩, if_neg d16, hI, Hmn.out]
                    have HO2 := hid HO
                    have cC := rcount_any mn (by omega)
                    have hcz := K.cntF_length 10 mn
                    have hcp : 1 ≤ (K.cnt mn).length := by unfold K.cnt K.cntF; split <;> simp
                    have HCL := hid (p := (cur ++ [3]).length + (K.cnt mn).length ≤ 110000000000000) (by rw [List.length_append, List.length_cons, List.length_nil]; unfold K.cnt; omega)
                    have hmsz : m.sz < N := by
                      have h1 := K.Items.drop_sz l j
                      rw [Hcons.out] at h1
                      simp only [K.Items.sz] at h1; omega
                    have HMS := hid hmsz
                    have HRM : Hid ((cur ++ [3] ++ K.cnt mn).length + m.room ≤ 100000000000000) := by
                      show _ ≤ _
                      rw [List.length_append, List.length_append, List.length_cons, List.length_nil]; unfold K.cnt; omega
                    have HIE := hid hI
                    obtain ⟨I1, I2⟩ := I
                    simp only at HO2
                    clear HO hbad hcz hI hmsz
                    go_upto_region 24 with fail
                    have HNX := hid (Row.kind HR2.out HX2.out (by decide))
                    have hd17 : d + 1 ≤ 16 := by omega
                    have hw1 := wrap_u mn y5
                    obtain ⟨hw2, hw3⟩ := wrap_d d (Nat.le_succ_of_le hd17)
                    clear b0 b1 b2
                    go_cut [11, 12] (fun s11 s12 wc => s12 = .int .i64 I2 ∧ Hid ((I2 = 0 → Row B (cur ++ [3] ++ K.cnt mn ++ I1) s11 wc) ∧ Below B w wc ∧ Keep0 w wc))
                    case first =>
                      go_region_held3 (fun w' => w'.cell? ⟨X, 3, none⟩ = some (.slice ma mn mc))
                        (first
                          | assumption
                          | with_reducible exact cellD hcb hsz2 b3
                          | with_reducible exact cellStep hg4 (ltD hcb hsz2) HNX.out (cellD hcb hsz2 b3)
                          | with_reducible exact keepX hi3 (rowX hcb hg4 HX2.out HNX.out) (by decide)
                          | fail)
                        (first
                          | (go_at_call 52; refine (cC _).mono ?_; rintro e w3 ⟨cv, rfl, hcr, hcb⟩; obtain ⟨g, cap, hcv⟩ := row_form hcr hcp; subst hcv)
                          | (go_at_call 41; refine (IH.out m HMS.out v4 (.slice ma mn mc) (d + 1) B (cur ++ [3] ++ K.cnt mn) w4 (inStep HM2.out (by omega) hcb hg4 HR2.out) y6 hd17 hR4 (Nat.le_trans (Nat.le_trans (show B ≤ w2.heap.size by omega) hcb.size) hg4.size) HRM.out).mono ?_; rintro e w5 ⟨iv, rfl, hi1, hi2, hi3⟩)
                          | (refine step_appR (by rfl) (.tmp 88) (.tmp 93) (by rfl) B _ (cur ++ [3]) (K.cnt mn) v2 g cap (by rfl) (by rfl) (Row.below (World.ownsRow.drew HR2.out) hcb) hcr HCL.out (Nat.le_trans (show B ≤ w2.heap.size by omega) hcb.size) ?_; intro v4 w4 hR4 hg4))
                      all_goals
                        have hG : Hid (((K.enc m (d + 1)).2 = 0 → Row B (cur ++ [3] ++ K.cnt mn ++ (K.enc m (d + 1)).1) iv w5) ∧ Below B w w5 ∧ Keep0 w w5) := ⟨hi1, ((HB2.out.drew.trans (hcb.mono (by show B ≤ w2.heap.size; omega))).grown hg4 (Nat.le_trans (show B ≤ w2.heap.size by omega) hcb.size) (fun k hk => (World.ownsRow.lt HR2.out k hk).1)).trans hi2, Lib.OthersKept.trans (Keep0.grown (HK2.out.belowD hcb) hg4 (Row.below (World.ownsRow.drew HR2.out) hcb)) hi3⟩
                        rw [HIE.out] at hG ⊢
                        clear hR4 hg4 hcb hcr hi1 hi2 hi3
                        go_split_ands
                        go_wp2_with fail
                        go_meet
                        exact ⟨rfl, hG⟩
                    case rest =>
                      obtain ⟨rfl, hc2⟩ := hcut
                      have HR5 := hid hc2.out.1
                      have HB5 := hid hc2.out.2.1
                      have HK5 := hid hc2.out.2.2
                      clear hc2 b3
                      by_cases e0 : I2 = 0
                      · have q0 : (I2 != 0) = false := by simp [e0]
                        have HR6 : Hid (Row B (cur ++ [3] ++ K.cnt mn ++ I1) u11 wc) := HR5.out e0
                        have HN : Hid (K.Step l d pre (j + 1) (cur ++ [3] ++ K.cnt mn ++ I1)) := by
                          have h1 := HO2.out
                          rw [if_pos e0] at h1
                          have := K.Step.next hS.out Hcons.out h1 rfl
                          rw [List.append_assoc, List.append_assoc]; exact this
                        clear e0 HR5
                        go_wp2_with fail
                        go_roundw
                        case rel => exact ⟨j + 1, _, by omega, by go_num, HR6, HB5, HK5, HN⟩
                        case measure => simp [intOf] <;> omega
                      · have q0 : (I2 != 0) = true := by rw [bne_iff_ne]; exact e0
                        have HU : Hid ((K.enc l d).2 = I2) := by
                          have h1 := HO2.out
                          rw [if_neg e0] at h1
                          exact K.Step.stop hS.out Hcons.out h1 e0
                        have HE0 := hid (p := I2 ≠ 0) e0
                        clear e0
                        go_wp2_with fail
                        go_ret2
                        exact rio_bad HU.out HE0.out HB5.out HK5.out
                · have hemp : s.toList.isEmpty = false := by
                    rw [← decide_eq_emptyBytes]
                    exact decide_eq_false (fun h => hs0 (by rw [h]; rfl))
                  have HU := hbad (fun h => by cases h.1) (fun h => by cases h.1) (fun h => hs0 h.2.2)
                  clear hbad
                  go_wp2_with fail
                  all_goals
                    go_ret2
                    exact rio_bad HU.out (by decide) HB2.out HK2.out
              · have x1 : (x != 0) = true := by rw [bne_iff_ne]; exact x0
                have HU := hbad (fun h => by cases h.1) (fun h => by cases h.1) (fun h => x0 h.2.1)
                clear hbad
                go_wp2_with fail
                all_goals
                  go_ret2
                  exact rio_bad HU.out (by decide) HB2.out HK2.out
            · have e1 : ch.toNat ≠ 1 := fun h => k1 (K.u8eq (b := 1) h)
              have e2 : ch.toNat ≠ 2 := fun h => k2 (K.u8eq (b := 2) h)
              have e3 : ch.toNat ≠ 3 := fun h => k3 (K.u8eq (b := 3) h)
              have b5 : ((ch.toNat : Int) == 1) = false := beq_eq_false_iff_ne.2 (by omega)
              have b6 : ((ch.toNat : Int) == 2) = false := beq_eq_false_iff_ne.2 (by omega)
              have b7 : ((ch.toNat : Int) == 3) = false := beq_eq_false_iff_ne.2 (by omega)
              have HU := hbad (fun h => e1 h.1) (fun h => e2 h.1) (fun h => e3 h.1)
              clear hbad
              go_wp2_with fail
              all_goals
                go_ret2
                exact rio_bad HU.out (by decide) HB2.out HK2.out
      · have hl0 : decide ((j : Int) < (n : Int)) = false := by simp; omega
        obtain ⟨hD1, hD2⟩ := K.Step.done hS.out (by have := Hn.out; omega)
        have HD1 := hid hD1
        have HR : Hid (Row B (pre ++ (K.enc l d).1) u0 wr) := by
          show Row _ _ _ _
          rw [← hD2]; exact hb.out
        clear hS hD1 hD2 hb
        go_wp2_with fail
        go_ret2
        exact ⟨_, by rw [HD1.out]; rfl, fun _ => HR.out, hbl.out, hK.out⟩
theorem ret_enc2 {a b : List UInt8 × Int} (h : a = b) : Ending.returned (.tuple #[.string ⟨a.1.toArray⟩, .int .i64 a.2]) = .returned (.tuple #[.string ⟨b.1.toArray⟩, .int .i64 b.2]) := by rw [h]
set_option maxRecDepth 100000 in
set_option maxHeartbeats 8000000 in
theorem refEncode_any (l : K.Items) (v : Value) (w : World) (hv : l.In w w.heap.size v) (hm : l.may) (hr : l.room ≤ 100000000000000) :
    Calls Tryd.prog 21 #[v] w fun e w' => e = .returned (.tuple #[.string ⟨(K.encode l).1.toArray⟩, .int .i64 (K.encode l).2]) ∧ Below w.heap.size w w' := by
  obtain ⟨R, hR⟩ : ∃ R, K.encode l = R := ⟨_, rfl⟩
  rw [hR]
  unfold K.encode at hR
  have cI := refItems_any (l.sz + 1) l (Nat.lt_succ_self _) (.slice none 0 0) v 0 w.heap.size [] w hv hm (by omega) (Row.nil _ _) (Nat.le_refl _) (by simpa using hr)
  unfold RIOf at cI
  obtain ⟨E, hE⟩ : ∃ E, K.enc l 0 = E := ⟨_, rfl⟩
  have hroom := K.enc_room l 0
  rw [hE] at hR cI hroom
  obtain ⟨E1, E2⟩ := E
  simp only at hR cI hroom
  have HR := hid hR
  clear hE hR hv
  go_enter Tryd.func21, Tryd.ntmps21
  go_wp2_with fail
  refine cI.mono ?_
  rintro e w2 ⟨bv, rfl, h1, h2, h3⟩
  have HB := hid h2
  by_cases e0 : E2 = 0
  · have q0 : (E2 != 0) = false := by simp [e0]
    have hrow := h1 e0
    simp only [List.nil_append] at hrow
    obtain ⟨a3, c3, rfl⟩ := hrow.shape2
    have hconv := hrow.conv
    clear h1 h2 h3 hrow cI
    by_cases hbig : 100000 < E1.length
    · have t0 : decide ((100000 : Int) < (E1.length : Int)) = true := by simp; omega
      have HE : Hid (([], 3) = R) := by
        have := HR.out
        rw [if_neg (by simp [e0]), if_pos hbig] at this
        exact this
      clear e0
      go_wp2_with fail
      go_ret2
      exact ⟨ret_enc2 (a := ([], 3)) HE.out, HB.out⟩
    · have t0 : decide ((100000 : Int) < (E1.length : Int)) = false := by simp; omega
      have HE : Hid ((E1, 0) = R) := by
        have := HR.out
        rw [if_neg (by simp [e0]), if_neg hbig] at this
        exact this
      clear e0
      go_wp2_with fail
      go_ret2
      exact ⟨ret_enc2 (a := (E1, 0)) HE.out, HB.out⟩
  · have q0 : (E2 != 0) = true := by rw [bne_iff_ne]; exact e0
    have HE : Hid (([], E2) = R) := by
      have := HR.out
      rw [if_pos (by simpa using e0)] at this
      exact this
    clear e0 h1 h2 h3 cI
    go_wp2_with fail
    go_ret2
    exact ⟨ret_enc2 (a := ([], E2)) HE.out, HB.out⟩
end Go.Proofs.YtfadnhihcobclaaDoor
