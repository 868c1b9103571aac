/- The walks of answer, numbers, size. -/
import Derived.Test.YtohdifffdgoaaaaDoorVCheckP
import Derived.Laws.Bits64
import Derived.OneCell
namespace Go.Proofs.YtohdifffdgoaaaaDoor
open Go.RowKit
open Go.Lib (hid)

theorem fresh2 (w : World) (o o' : Obj) : (((w.alloc o).alloc o').heap[w.heap.size]? = some o) ∧ (((w.alloc o).alloc o').heap[w.heap.size + 1]? = some o') := by
  have s1 : (w.alloc o).heap.size = w.heap.size + 1 := by simp
  refine ⟨?_, ?_⟩
  · rw [Lib.alloc_old _ _ _ (by omega)]; exact heap_alloc_new w _
  · rw [← s1]; exact heap_alloc_new _ _
theorem grown2 (w : World) (o o' : Obj) : Below w.heap.size w ((w.alloc o).alloc o') := ((Below.refl _ w).alloc (Nat.le_refl _) o).alloc (by simp) o'
theorem size2 (w : World) (o o' : Obj) : ((w.alloc o).alloc o').heap.size = w.heap.size + 2 := by simp
namespace V
def In (n : Int) : Prop := -9223372036854775808 ≤ n ∧ n ≤ 9223372036854775807
end V
theorem results_pair {P : Program} {fn : Func} {p q : Tmp} {ty : TypeId} (h : fn.results = #[.cell p ty, .tmp q]) (tmps : Array Value) (w : World) (g : Nat) (t : TypeId) (cs : Array Value) (fr : Nat × Nat) (d : TypeDesc) (v : Value)
    (hp : tmps.getD p undef = .pointer (some ⟨g, 0, none⟩)) (hg : w.heap[g]? = some (.cells cs t fr)) (hq : tmps.getD q undef = v)
    (hu : P.underlying ty = some d) (hd : (match d with | .struct _ | .array _ _ => true | _ => false) = true) (hi : (P.info? ty).map (·.size) = some cs.size) :
    (results fn tmps).run P w = .ok (.tuple #[.agg cs, v]) w := by
  have hp' : tmps[p]?.getD undef = .pointer (some ⟨g, 0, none⟩) := by simpa using hp
  have hq' : tmps[q]?.getD undef = v := by simpa using hq
  simp [results, h, hp', hq', asAddr, run_loadVar_row w g t ty cs fr d hg hu hd hi]

theorem rowCell {w : World} {b : Nat} {cs : Array Value} {t : TypeId} (h : w.heap[b]? = some (.cells cs t (0, 0))) (i : Nat) : w.cell? ⟨b, i, none⟩ = cs[i]? := by rw [cell_of_row _ _ _ _ _ _ h]
theorem rowFree {w : World} {b : Nat} {cs : Array Value} {t : TypeId} (h : w.heap[b]? = some (.cells cs t (0, 0))) (i : Nat) : w.frozen? ⟨b, i, none⟩ = false := by simp [World.frozen?, h]
theorem row4 {w : World} {b : Nat} {x y z u : Value} {t : TypeId} (h : w.heap[b]? = some (.cells #[x, y, z, u] t (0, 0))) :
    w.cell? ⟨b, 0, none⟩ = some x ∧ w.cell? ⟨b, 1, none⟩ = some y ∧ w.cell? ⟨b, 2, none⟩ = some z ∧ w.cell? ⟨b, 3, none⟩ = some u := ⟨rowCell h 0, rowCell h 1, rowCell h 2, rowCell h 3⟩
theorem free4 {w : World} {b : Nat} {cs : Array Value} {t : TypeId} (h : w.heap[b]? = some (.cells cs t (0, 0))) :
    w.frozen? ⟨b, 0, none⟩ = false ∧ w.frozen? ⟨b, 1, none⟩ = false ∧ w.frozen? ⟨b, 2, none⟩ = false ∧ w.frozen? ⟨b, 3, none⟩ = false := ⟨rowFree h 0, rowFree h 1, rowFree h 2, rowFree h 3⟩

theorem row_set {w : World} {b : Nat} {cs : Array Value} {t : TypeId} (h : w.heap[b]? = some (.cells cs t (0, 0))) (i : Nat) (v : Value) : (w.setCell ⟨b, i, none⟩ v).heap[b]? = some (.cells (cs.setIfInBounds i v) t (0, 0)) := by
  have hlt := Go.lt_of_block h
  have h' : w.heap[b] = .cells cs t (0, 0) := by simpa [Array.getElem?_eq_getElem hlt] using h
  show (w.heap.modify b _)[b]? = _
  rw [Array.getElem?_eq_getElem (by simpa using hlt), Array.getElem_modify_self, h']
  rfl
theorem row4_set {w : World} {b : Nat} {x y z u : Value} {t : TypeId} (h : w.heap[b]? = some (.cells #[x, y, z, u] t (0, 0))) (x' y' z' u' : Value) :
    ((((w.setCell ⟨b, 0, none⟩ x').setCell ⟨b, 1, none⟩ y').setCell ⟨b, 2, none⟩ z').setCell ⟨b, 3, none⟩ u').heap[b]? = some (.cells #[x', y', z', u'] t (0, 0)) :=
  row_set (row_set (row_set (row_set h 0 x') 1 y') 2 z') 3 u'
theorem below4_set {B : Nat} {a w : World} {b : Nat} (h : Below B a w) (hb : B ≤ b) (x y z u : Value) : Below B a ((((w.setCell ⟨b, 0, none⟩ x).setCell ⟨b, 1, none⟩ y).setCell ⟨b, 2, none⟩ z).setCell ⟨b, 3, none⟩ u) :=
  (((h.setCell (p := ⟨b, 0, none⟩) hb x).setCell (p := ⟨b, 1, none⟩) hb y).setCell (p := ⟨b, 2, none⟩) hb z).setCell (p := ⟨b, 3, none⟩) hb u

set_option maxRecDepth 100000 in
set_option maxHeartbeats 4000000 in
theorem answer_yes (n : Int) (w : World) : Calls Tryd.prog 47 #[.int .i64 n, .bool true] w fun e w' => e = .returned (.tuple #[.agg #[.int .u8 1, .int .i64 n, .bool false, .string ⟨#[]⟩], .int .i64 0]) ∧ Below w.heap.size w w' := by
  go_enter Tryd.func47, Tryd.ntmps47
  go_wp2_with fail
  refine (vnumber_any n _).mono ?_
  rintro e w1 ⟨rfl, b1⟩
  have hg := b1.block w.heap.size (by simp)
  rw [heap_alloc_new] at hg
  obtain ⟨c1, c2, c3, c4⟩ := row4 hg
  obtain ⟨f1, f2, f3, f4⟩ := free4 hg
  have HG := hid hg
  have B1 := hid (((Below.refl w.heap.size w).alloc (Nat.le_refl _) _).trans (b1.mono (by simp)))
  clear b1 hg
  go_wp2_with fail
  exact bodyPost_ret (v := .tuple #[.agg #[.int .u8 1, .int .i64 n, .bool false, .string ⟨#[]⟩], .int .i64 0]) (results_pair rfl _ _ w.heap.size 23 _ (0, 0) _ (.int .i64 0) rfl (row4_set HG.out _ _ _ _) (by rfl) Tryd.underlying23 rfl infoValue) rfl ⟨rfl, below4_set B1.out (Nat.le_refl _) _ _ _ _⟩
theorem answer_no (n : Int) (w : World) : Calls Tryd.prog 47 #[.int .i64 n, .bool false] w fun e w' => e = .returned (.tuple #[.agg #[.int .u8 0, .int .i64 0, .bool false, .string ⟨#[]⟩], .int .i64 91]) ∧ Below w.heap.size w w' := by
  go_enter Tryd.func47, Tryd.ntmps47
  go_wp2_with fail
  exact bodyPost_ret (v := .tuple #[.agg #[.int .u8 0, .int .i64 0, .bool false, .string ⟨#[]⟩], .int .i64 91]) (results_pair rfl _ _ w.heap.size 23 _ (0, 0) _ (.int .i64 91) rfl (heap_alloc_new w _) (by rfl) Tryd.underlying23 rfl infoValue) rfl ⟨rfl, (Below.refl _ w).alloc (Nat.le_refl _) _⟩

theorem V.okE_one (n : Int) (b : Bool) (s : ByteArray) : V.okE ⟨1, n, b, s⟩ = if V.isInt ⟨1, n, b, s⟩ then 0 else 1 := by
  simp [V.okE, V.ok, V.isInt]

set_option maxRecDepth 100000 in
set_option maxHeartbeats 4000000 in
theorem numbers2 (g : Nat) (k : Nat) (n : Int) (b : Bool) (s : ByteArray) (k' : Nat) (n' : Int) (b' : Bool) (s' : ByteArray) (w : World) (hT : Tabs w)
    (hg : w.heap[g]? = some (.cells #[.int .u8 k, .int .i64 n, .bool b, .string s, .int .u8 k', .int .i64 n', .bool b', .string s'] 23 (0, 0))) :
    Calls Tryd.prog 46 #[.slice (some ⟨g, 0, none⟩) 2 2] w fun e w' => e = .returned (.int .i64 (if V.isInt ⟨k, n, b, s⟩ && V.isInt ⟨k', n', b', s'⟩ then 0 else 90)) ∧ Below w.heap.size w w' := by
  obtain ⟨R, hR⟩ : ∃ R : Int, (if V.isInt ⟨k, n, b, s⟩ && V.isInt ⟨k', n', b', s'⟩ then 0 else 90) = R := ⟨_, rfl⟩
  rw [hR]
  have HR := hid hR
  clear hR
  have hlt := Go.lt_of_block hg
  have HT := hid hT
  have HG := hid hg
  clear hT hg
  go_enter Tryd.func46, Tryd.ntmps46
  go_wp2_with fail
  go_loopw [7] (fun i wr => ∃ j : Nat, j ≤ 2 ∧ i = .int .i64 j ∧ Hid (Below w.heap.size w wr) ∧ Hid ((1 ≤ j → V.isInt ⟨k, n, b, s⟩ = true) ∧ (2 ≤ j → V.isInt ⟨k', n', b', s'⟩ = true))) (fun i _ => 2 - (intOf i).toNat)
  case atStart => exact ⟨0, by omega, rfl, Below.refl _ _, ⟨by omega, by omega⟩⟩
  case round =>
    obtain ⟨j, hj, rfl, hb, hI⟩ := hrel
    have hgr : wr.heap[g]? = some (.cells #[.int .u8 k, .int .i64 n, .bool b, .string s, .int .u8 k', .int .i64 n', .bool b', .string s'] 23 (0, 0)) := by rw [hb.out.block g hlt]; exact HG.out
    have hwr := hb.out.size
    rcases (by omega : j = 0 ∨ j = 1 ∨ j = 2) with rfl | rfl | rfl
    · have c0 : wr.cell? ⟨g, 0, none⟩ = some (.int .u8 k) := rowCell hgr 0
      have c1 : wr.cell? ⟨g, 0 + 1, none⟩ = some (.int .i64 n) := rowCell hgr 1
      have c2 : wr.cell? ⟨g, 0 + 2, none⟩ = some (.bool b) := rowCell hgr 2
      have c3 : wr.cell? ⟨g, 0 + 3, none⟩ = some (.string s) := rowCell hgr 3
      have hBx := hb.out.alloc hwr (.cells #[.int .u8 k, .int .i64 n, .bool b, .string s] 23)
      have cC := check_any k n b s (wr.alloc (.cells #[.int .u8 k, .int .i64 n, .bool b, .string s] 23)) (Utf8Tabs_below HT.out hBx)
      have HBx := hid hBx
      clear hgr hBx
      by_cases k1 : k = 1
      · subst k1
        have t0 : (((1 : Nat) : Int) != 1) = false := rfl
        have t1 : (((1 : Nat) : Int) == 1) = true := rfl
        rw [V.okE_one] at cC
        obtain ⟨q, hq⟩ : ∃ q, V.isInt ⟨1, n, b, s⟩ = q := ⟨_, rfl⟩
        rw [hq] at cC
        cases q
        · have HE : Hid (R = 90) := by
            show _ = _
            rw [← HR.out]; simp [hq]
          clear hI hq HR
          go_wp2_with fail
          refine cC.mono ?_
          rintro e w1 ⟨rfl, b1⟩
          have B1 := hid (HBx.out.trans (b1.mono HBx.out.size))
          clear b1 cC
          go_wp2_with fail
          go_ret
          exact ⟨ret_i (a := 90) HE.out.symm, B1.out⟩
        · have HI : Hid ((1 ≤ 1 → V.isInt ⟨1, n, b, s⟩ = true) ∧ (2 ≤ 1 → V.isInt ⟨k', n', b', s'⟩ = true)) := ⟨fun _ => hq, by omega⟩
          clear hI hq
          go_wp2_with fail
          refine cC.mono ?_
          rintro e w1 ⟨rfl, b1⟩
          have B1 := hid (HBx.out.trans (b1.mono HBx.out.size))
          clear b1 cC
          go_wp2_with fail
          go_roundw
          case rel => exact ⟨1, by omega, by rfl, B1, HI⟩
          case measure => simp [intOf]
      · have t0 : ((k : Int) != 1) = true := by rw [bne_iff_ne]; omega
        have t1 : ((k : Int) == 1) = false := beq_eq_false_iff_ne.2 (by omega)
        have HE : Hid (R = 90) := by
          show _ = _
          rw [← HR.out]; simp [V.isInt, k1]
        clear hI cC k1 HR
        go_wp2_with fail
        go_ret
        exact ⟨ret_i (a := 90) HE.out.symm, HBx.out⟩
    · have c0 : wr.cell? ⟨g, 4, none⟩ = some (.int .u8 k') := rowCell hgr 4
      have c1 : wr.cell? ⟨g, 4 + 1, none⟩ = some (.int .i64 n') := rowCell hgr 5
      have c2 : wr.cell? ⟨g, 4 + 2, none⟩ = some (.bool b') := rowCell hgr 6
      have c3 : wr.cell? ⟨g, 4 + 3, none⟩ = some (.string s') := rowCell hgr 7
      have hBx := hb.out.alloc hwr (.cells #[.int .u8 k', .int .i64 n', .bool b', .string s'] 23)
      have cC := check_any k' n' b' s' (wr.alloc (.cells #[.int .u8 k', .int .i64 n', .bool b', .string s'] 23)) (Utf8Tabs_below HT.out hBx)
      have HBx := hid hBx
      clear hgr hBx
      by_cases k1 : k' = 1
      · subst k1
        have t0 : (((1 : Nat) : Int) != 1) = false := rfl
        have t1 : (((1 : Nat) : Int) == 1) = true := rfl
        rw [V.okE_one] at cC
        obtain ⟨q, hq⟩ : ∃ q, V.isInt ⟨1, n', b', s'⟩ = q := ⟨_, rfl⟩
        rw [hq] at cC
        cases q
        · have HE : Hid (R = 90) := by
            show _ = _
            rw [← HR.out]; simp [hq]
          clear hI hq HR
          go_wp2_with fail
          refine cC.mono ?_
          rintro e w1 ⟨rfl, b1⟩
          have B1 := hid (HBx.out.trans (b1.mono HBx.out.size))
          clear b1 cC
          go_wp2_with fail
          go_ret
          exact ⟨ret_i (a := 90) HE.out.symm, B1.out⟩
        · have HI : Hid ((1 ≤ 2 → V.isInt ⟨k, n, b, s⟩ = true) ∧ (2 ≤ 2 → V.isInt ⟨1, n', b', s'⟩ = true)) := ⟨fun _ => hI.out.1 (by omega), fun _ => hq⟩
          clear hI hq
          go_wp2_with fail
          refine cC.mono ?_
          rintro e w1 ⟨rfl, b1⟩
          have B1 := hid (HBx.out.trans (b1.mono HBx.out.size))
          clear b1 cC
          go_wp2_with fail
          go_roundw
          case rel => exact ⟨2, by omega, by rfl, B1, HI⟩
          case measure => simp [intOf]
      · have t0 : ((k' : Int) != 1) = true := by rw [bne_iff_ne]; omega
        have t1 : ((k' : Int) == 1) = false := beq_eq_false_iff_ne.2 (by omega)
        have HE : Hid (R = 90) := by
          show _ = _
          rw [← HR.out]; simp [V.isInt, k1]
        clear hI cC k1 HR
        go_wp2_with fail
        go_ret
        exact ⟨ret_i (a := 90) HE.out.symm, HBx.out⟩
    · have HE : Hid (R = 0) := by
        show _ = _
        rw [← HR.out, hI.out.1 (by omega), hI.out.2 (by omega)]; rfl
      clear hI HR hgr
      go_wp2_with fail
      go_ret
      exact ⟨ret_i (a := 0) HE.out.symm, hb.out⟩

set_option maxRecDepth 100000 in
theorem size_any (n : Int) (w : World) (h0 : -9223372036854775808 ≤ n) (h1 : n ≤ 9223372036854775807) : Calls Tryd.prog 55 #[.int .i64 n] w fun e w' => e = .returned (.int .u64 (n.natAbs : Nat)) ∧ w' = w := by
  obtain ⟨a, ha⟩ : ∃ a, n.natAbs = a := ⟨_, rfl⟩
  rw [ha]
  by_cases hn : n < 0
  · have d0 : decide (n < 0) = true := decide_eq_true hn
    have e1 : IntKind.u64.wrap n = ((18446744073709551616 - a : Nat) : Int) := by rw [IntKind.wrap_u64]; omega
    have e2 : IntKind.u64.wrap (-((18446744073709551616 - a : Nat) : Int)) = (a : Int) := by rw [IntKind.wrap_u64]; omega
    have e3 : IntKind.u64.wrap (-n) = (a : Int) := by rw [IntKind.wrap_u64]; omega
    clear h0 h1 ha
    go_enter Tryd.func55, Tryd.ntmps55
    go_wp2_with fail
    go_ret
    exact ⟨by first | rfl | simp [e1, e2, e3], rfl⟩
  · have d0 : decide (n < 0) = false := decide_eq_false hn
    have e1 : IntKind.u64.wrap n = (a : Int) := by rw [IntKind.wrap_u64]; omega
    clear h0 h1 ha
    go_enter Tryd.func55, Tryd.ntmps55
    go_wp2_with fail
    go_ret
    exact ⟨by first | rfl | simp [e1], rfl⟩
end Go.Proofs.YtohdifffdgoaaaaDoor
