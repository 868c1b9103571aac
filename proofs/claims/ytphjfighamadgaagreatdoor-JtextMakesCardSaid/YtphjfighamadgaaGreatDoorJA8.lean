/- Numbers at base sixteen; quote. -/
import Derived.Test.YtphjfighamadgaaGreatDoorProg
import Derived.WalkKit
import Derived.Below
import Derived.Laws.BytesString
import Derived.Lib.Hide
import Derived.Lib.AppendStr
import Derived.Lib.Strings
import Derived.Lib.UnsafeStr
import Derived.Test.YtphjfighamadgaaGreatDoorJA4
import Derived.Test.YtphjfighamadgaaGreatDoorJA1
import Derived.Test.YtphjfighamadgaaGreatDoorJA5
import Derived.Test.YtphjfighamadgaaGreatDoorJA2
import Derived.Lib.MapLaws
import Derived.Lib.TrimUEq
import Derived.Lib.OthersKept
import Derived.Laws.Concat
namespace Go.Proofs.YtphjfighamadgaaGreatDoor
open Go.RowKit
open Go.Lib (hid)

/-- a slice of the call's own (blocks from B on) that holds these bytes -/
def Row (B : Nat) (l : List UInt8) (v : Value) (w : World) : Prop := w.ownsRow B 5 1 v l.length (Lib.byteCells l)
theorem Row.nil (B : Nat) (w : World) : Row B [] (.slice none 0 0) w := ⟨rfl, Or.inl ⟨rfl, rfl⟩⟩
theorem Row.below {B : Nat} {l : List UInt8} {v : Value} {w w' : World} (h : Row B l v w) (hb : Below w.heap.size w w') : Row B l v w' :=
  World.ownsRow.kept (row := none) h ⟨hb.os, hb.tape, hb.output, hb.size, fun k hk _ => hb.block k hk⟩ (Classical.em _)
theorem Row.new (w : World) (c : UInt8) : Row w.heap.size [c] (.slice (some ⟨w.heap.size, 0, none⟩) 1 1) (w.alloc (.cells #[.int .u8 c.toNat] 5)) :=
  ⟨rfl, Or.inr ⟨_, 1, _, rfl, Nat.le_refl _, heap_alloc_new w _, Nat.le_refl _, by decide, rfl, rfl⟩⟩
theorem foldl_push : ∀ (l : List Int) (r : ByteArray), l.foldl (fun r n => r.push (UInt8.ofNat n.toNat)) r = ⟨(r.data.toList ++ l.map fun n => UInt8.ofNat n.toNat).toArray⟩ := by
  intro l
  induction l with
  | nil => intro r; simp
  | cons n l ih => intro r; rw [List.foldl_cons, ih]; simp [ByteArray.push]
/-- 'string(out)' -/
theorem Row.conv {B : Nat} {l : List UInt8} {v : Value} {w : World} (h : Row B l v w) : (convert 67 9 v).run Tryz.prog w = .ok (.string ⟨l.toArray⟩) w := by
  have hcells := fun g (hg : v.ownBlock = some g) => World.ownsRow.cells h hg
  rcases h.2 with ⟨rfl, h0⟩ | ⟨g, cap, cur, rfl, _⟩
  · have : l = [] := List.eq_nil_of_length_eq_zero h0
    subst this
    rw [run_convert_bytes_string _ _ _ _ _ _ _ Tryz.underlying67 Tryz.underlying5 Tryz.underlying9]
    rfl
  · rw [run_convert_bytes_string _ _ _ _ _ _ _ Tryz.underlying67 Tryz.underlying5 Tryz.underlying9]
    have hm : (l.map fun c => (c.toNat : Int)).map (Value.int .u8) = Lib.byteCells l := by
      unfold Lib.byteCells; simp
    have hl : (loadCells ⟨g, 0, none⟩ l.length).run Tryz.prog w = .ok ((l.map fun c => (c.toNat : Int)).map (Value.int .u8)).toArray w := by
      have := run_loadCells_list (P := Tryz.prog) w ⟨g, 0, none⟩ ((l.map fun c => (c.toNat : Int)).map (Value.int .u8)) (fun j u hu => by
        rw [hm] at hu; exact hcells g rfl j u hu)
      simpa using this
    rw [run_bytesToString _ _ _ _ _ hl, foldl_push]
    have hid' : (l.map fun c => (c.toNat : Int)).map (fun n => UInt8.ofNat n.toNat) = l := by
      rw [List.map_map]
      conv => rhs; rw [← List.map_id l]
      refine List.map_congr_left (fun c _ => ?_)
      simp
    rw [hid']
    simp

theorem Row.of_append {B : Nat} {l q : List UInt8} {v : Value} {w : World} (h : w.ownsRow B 5 1 v (l.length + q.length) (Lib.byteCells l ++ Lib.strCells ⟨q.toArray⟩)) : Row B (l ++ q) v w := by
  unfold Row
  rw [List.length_append, Lib.byteCells_append]
  exact h
theorem Row.of_push {B : Nat} {l : List UInt8} {c : UInt8} {v : Value} {w : World} (h : w.ownsRow B 5 1 v (l.length + 1) (Lib.byteCells l ++ [.int .u8 c.toNat])) : Row B (l ++ [c]) v w := by
  unfold Row
  rw [List.length_append, Lib.byteCells_append]
  exact h

end Go.Proofs.YtphjfighamadgaaGreatDoor
namespace Go.Proofs.YtphjfighamadgaaGreatDoor
open Go.RowKit
open Go.Lib (hid)
/-- the one cell of the library's table that base sixteen wants -/
def Tz (w : World) : Prop := w.cell? ⟨7, 15, none⟩ = some (.int .u8 4)
theorem Tz.keep {w W : World} (h : Tz w) (hb : Below w.heap.size w W) : Tz W := (hb.cell (p := ⟨7, 15, none⟩) (Lib.lt_of_cell h)).trans h
set_option maxRecDepth 100000 in
theorem tz64 (w : World) (h : Tz w) : Calls Tryz.prog 126 #[.int .u64 16] w fun e w' => e = .returned (.int .i64 4) ∧ w' = w := by
  have h0 : w.cell? ⟨7, 15, none⟩ = some (.int .u8 4) := h
  have e1 : IntKind.u64.wrap (-16) = 18446744073709551600 := by kernel_rfl
  have e2 : bits .and .u64 16 18446744073709551600 = 16 := by kernel_rfl
  have e3 : IntKind.u64.wrap (16 * 285870213051353865) = 4573923408821661840 := by kernel_rfl
  have e4 : (4573923408821661840 : Int) / 288230376151711744 = 15 := by kernel_rfl
  have e5 : (4573923408821661840 / 288230376151711744 : Int).toNat = 15 := by kernel_rfl
  clear h
  go_enter Tryz.func126, Tryz.ntmps126
  go_wp2_with fail
  go_ret
  exact ⟨rfl, rfl⟩
set_option maxRecDepth 100000 in
theorem tz (w : World) (h : Tz w) : Calls Tryz.prog 117 #[.int .u64 16] w fun e w' => e = .returned (.int .i64 4) ∧ w' = w := by
  have c := tz64 w h
  clear h
  go_enter Tryz.func117, Tryz.ntmps117
  go_wp2_with fail
  refine c.mono ?_
  rintro e w' ⟨rfl, hw⟩
  rw [hw]
  clear hw c
  go_wp2_with fail
  go_ret
  exact ⟨rfl, rfl⟩
set_option maxRecDepth 100000 in
theorem pow2 (w : World) : Calls Tryz.prog 116 #[.int .i64 16] w fun e w' => e = .returned (.bool true) ∧ w' = w := by
  go_enter Tryz.func116, Tryz.ntmps116
  go_wp2_with fail
  go_ret
  exact ⟨rfl, rfl⟩
theorem conv_list {w : World} {g o : Nat} (l : List UInt8) {cap : Nat} (h : ∀ j c, l[j]? = some c → w.cell? ⟨g, o + j, none⟩ = some (.int .u8 (c.toNat : Nat))) : (convert 67 9 (.slice (some ⟨g, o, none⟩) l.length cap)).run Tryz.prog w = .ok (.string ⟨l.toArray⟩) w := by
  rw [run_convert_bytes_string _ _ _ _ _ _ _ Tryz.underlying67 Tryz.underlying5 Tryz.underlying9]
  have hl : (loadCells ⟨g, o, none⟩ l.length).run Tryz.prog w = .ok ((l.map fun c => (c.toNat : Int)).map (Value.int .u8)).toArray w := by
    have := run_loadCells_list (P := Tryz.prog) w ⟨g, o, none⟩ ((l.map fun c => (c.toNat : Int)).map (Value.int .u8)) (fun j u hu => by
      have e : (⟨g, o, none⟩ : Addr).add j = ⟨g, o + j, none⟩ := by cases j <;> simp [Addr.add]
      rw [e]
      rw [List.getElem?_map, List.getElem?_map] at hu
      cases hj : l[j]? with
      | none => rw [hj] at hu; cases hu
      | some c => rw [hj] at hu; cases hu; exact h j c hj)
    simpa using this
  rw [run_bytesToString _ _ _ _ _ hl, foldl_push]
  have hid' : (l.map fun c => (c.toNat : Int)).map (fun n => UInt8.ofNat n.toNat) = l := by
    rw [List.map_map]
    conv => rhs; rw [← List.map_id l]
    refine List.map_congr_left (fun c _ => ?_)
    simp
  rw [hid']
  simp
theorem hex_tab (n : Nat) (hn : n < 16) (h : n < ByteArray.size ⟨#[48, 49, 50, 51, 52, 53, 54, 55, 56, 57, 97, 98, 99, 100, 101, 102, 103, 104, 105, 106, 107, 108, 109, 110, 111, 112, 113, 114, 115, 116, 117, 118, 119, 120, 121, 122]⟩) : (⟨#[48, 49, 50, 51, 52, 53, 54, 55, 56, 57, 97, 98, 99, 100, 101, 102, 103, 104, 105, 106, 107, 108, 109, 110, 111, 112, 113, 114, 115, 116, 117, 118, 119, 120, 121, 122]⟩ : ByteArray)[n]'h = W.hexD n := by
  have : ∀ (m : Fin 16) (h : m.val < ByteArray.size ⟨#[48, 49, 50, 51, 52, 53, 54, 55, 56, 57, 97, 98, 99, 100, 101, 102, 103, 104, 105, 106, 107, 108, 109, 110, 111, 112, 113, 114, 115, 116, 117, 118, 119, 120, 121, 122]⟩), (⟨#[48, 49, 50, 51, 52, 53, 54, 55, 56, 57, 97, 98, 99, 100, 101, 102, 103, 104, 105, 106, 107, 108, 109, 110, 111, 112, 113, 114, 115, 116, 117, 118, 119, 120, 121, 122]⟩ : ByteArray)[m.val]'h = W.hexD m.val := by decide
  exact this ⟨n, hn⟩ h
set_option maxRecDepth 100000 in
set_option maxHeartbeats 2000000 in
theorem bits_lo (n : Nat) (hn : n < 16) (w : World) (h : Tz w) : Calls Tryz.prog 99 #[.slice none 0 0, .int .u64 n, .int .i64 16, .bool false, .bool false] w fun e w' => e = .returned (.tuple #[.slice none 0 0, .string ⟨#[W.hexD n]⟩]) ∧ Below w.heap.size w w' := by
  have HT := hid h
  have d0 : decide ((16 : Int) ≤ (n : Int)) = false := decide_eq_false (by omega)
  have d1 : decide (16 ≤ n) = false := decide_eq_false (by omega)
  have hn0 : (0 : Int) ≤ (n : Int) := by omega
  have hn1 : (n : Int) < 16 := by omega
  have cP := fun W => pow2 W
  have cT := fun W (h : Tz W) => tz W h
  clear h
  go_enter Tryz.func99, Tryz.ntmps99
  go_upto_region 7 with fail
  obtain ⟨w1, hw1⟩ : ∃ w1, w.alloc (.cells Tryz.zeroCells152 152) = w1 := ⟨_, rfl⟩
  rw [hw1]
  have HB1 : Hid (Below w.heap.size w w1) := by show Below _ _ _; rw [← hw1]; exact (Below.refl _ w).alloc (Nat.le_refl _) _
  have HT1 := hid (HT.out.keep HB1.out)
  have HV1 : Hid (w1.heap[w.heap.size]? = some (.cells Tryz.zeroCells152 152 (0, 0))) := by show _ = _; rw [← hw1]; exact heap_alloc_new w _
  clear hw1
  go_wp2_with fail
  refine (cP _).mono ?_
  rintro e wA ⟨rfl, hw⟩
  rw [hw]
  clear hw
  go_wp2_with fail
  refine (cT _ HT1.out).mono ?_
  rintro e wA ⟨rfl, hw⟩
  rw [hw]
  clear hw
  go_wp2_with fail
  have z0 : w1.cell? ⟨w.heap.size, 64, none⟩ = some (.int .u8 0) := by rw [Lib.cell_of_heap HV1.out]; kernel_rfl
  have z1 := Lib.frozen_of_heap HV1.out 64
  go_loopw [1, 13] (fun vu vi wr => vu = .int .u64 n ∧ vi = .int .i64 65 ∧ wr = w1) (fun _ _ _ => 0)
  case atStart => exact ⟨rfl, rfl, rfl⟩
  case round =>
    obtain ⟨rfl, rfl, hwr⟩ := hrel
    rw [hwr]
    clear hwr
    have hH := hex_tab n hn
    have hc := conv_list (w := w1.setCell ⟨w.heap.size, 64, none⟩ (.int .u8 ((W.hexD n).toNat : Nat))) (g := w.heap.size) (o := 64) (cap := 1) [W.hexD n] (fun j c hj => by
      match j, hj with
      | 0, hj => cases hj; exact World.cell?_setCell_same _ _ _ z0
      | j + 1, hj => simp at hj)
    have HB2 := hid (HB1.out.setCell (p := ⟨w.heap.size, 64, none⟩) (Nat.le_refl _) (.int .u8 ((W.hexD n).toNat : Nat)))
    rw [show ([W.hexD n] : List UInt8).length = 1 from rfl] at hc
    go_wp2_with fail
    go_ret2
    exact ⟨rfl, HB2.out⟩
set_option maxRecDepth 100000 in
set_option maxHeartbeats 2000000 in
theorem bits_hi (n : Nat) (m : Nat) (hm : m < 16) (hn : n = 16 + m) (w : World) (h : Tz w) : Calls Tryz.prog 99 #[.slice none 0 0, .int .u64 n, .int .i64 16, .bool false, .bool false] w fun e w' => e = .returned (.tuple #[.slice none 0 0, .string ⟨#[W.hexD 1, W.hexD m]⟩]) ∧ Below w.heap.size w w' := by
  have HT := hid h
  have d0 : decide ((16 : Int) ≤ (n : Int)) = true := decide_eq_true (by omega)
  have d1 : decide (16 ≤ n) = true := decide_eq_true (by omega)
  have hn0 : (0 : Int) ≤ (n : Int) := by omega
  have hn1 : (n : Int) < 32 := by omega
  have hm0 : (0 : Int) ≤ (m : Int) := by omega
  have hm1 : (m : Int) < 16 := by omega
  have a1 : bits .and .u64 (n : Int) 15 = (m : Int) := by
    have : ∀ q : Fin 16, bits .and .u64 ((16 + q.val : Nat) : Int) 15 = (q.val : Int) := by decide +kernel
    rw [hn]; exact this ⟨m, hm⟩
  have a2 : (n : Int) / 16 = 1 := by omega
  have a3 : (n : Int) / 2 ^ 4 = 1 := by omega
  have a4 : n / 16 = 1 := by omega
  have HN := hid hn
  clear hn
  have cP := fun W => pow2 W
  have cT := fun W (h : Tz W) => tz W h
  clear h
  go_enter Tryz.func99, Tryz.ntmps99
  go_upto_region 7 with fail
  obtain ⟨w1, hw1⟩ : ∃ w1, w.alloc (.cells Tryz.zeroCells152 152) = w1 := ⟨_, rfl⟩
  rw [hw1]
  have HB1 : Hid (Below w.heap.size w w1) := by show Below _ _ _; rw [← hw1]; exact (Below.refl _ w).alloc (Nat.le_refl _) _
  have HT1 := hid (HT.out.keep HB1.out)
  have HV1 : Hid (w1.heap[w.heap.size]? = some (.cells Tryz.zeroCells152 152 (0, 0))) := by show _ = _; rw [← hw1]; exact heap_alloc_new w _
  clear hw1
  go_wp2_with fail
  refine (cP _).mono ?_
  rintro e wA ⟨rfl, hw⟩
  rw [hw]
  clear hw
  go_wp2_with fail
  refine (cT _ HT1.out).mono ?_
  rintro e wA ⟨rfl, hw⟩
  rw [hw]
  clear hw
  go_wp2_with fail
  have z0 : w1.cell? ⟨w.heap.size, 64, none⟩ = some (.int .u8 0) := by rw [Lib.cell_of_heap HV1.out]; kernel_rfl
  have z1 := Lib.frozen_of_heap HV1.out 64
  go_loopw [1, 13] (fun vu vi wr => (vu = .int .u64 n ∧ vi = .int .i64 65 ∧ wr = w1) ∨ (vu = .int .u64 1 ∧ vi = .int .i64 64 ∧ wr = w1.setCell ⟨w.heap.size, 64, none⟩ (.int .u8 ((W.hexD m).toNat : Nat)))) (fun _ vi _ => (intOf vi).toNat)
  case atStart => exact Or.inl ⟨rfl, rfl, rfl⟩
  case round =>
    have hH := hex_tab m hm
    have hH1 := hex_tab 1 (by decide)
    rcases hrel with ⟨rfl, rfl, hwr⟩ | ⟨rfl, rfl, hwr⟩
    · rw [hwr]
      clear hwr
      go_wp2_with fail
      go_roundw
      case rel => first | exact Or.inr ⟨rfl, rfl, rfl⟩ | exact Or.inr ⟨rfl, trivial, rfl⟩ | exact Or.inr ⟨trivial, rfl, rfl⟩ | exact Or.inr ⟨rfl, rfl, trivial⟩ | (simp; done)
      case measure => simp [intOf]
    · have y0 : w1.cell? ⟨w.heap.size, 63, none⟩ = some (.int .u8 0) := by rw [Lib.cell_of_heap HV1.out]; kernel_rfl
      have y1 := Lib.frozen_of_heap HV1.out 63
      have hv2 := row_set HV1.out 64 (.int .u8 ((W.hexD m).toNat : Nat))
      have hc := conv_list (w := (w1.setCell ⟨w.heap.size, 64, none⟩ (.int .u8 ((W.hexD m).toNat : Nat))).setCell ⟨w.heap.size, 63, none⟩ (.int .u8 ((W.hexD 1).toNat : Nat))) (g := w.heap.size) (o := 63) (cap := 2) [W.hexD 1, W.hexD m] (fun j c hj => by
        match j, hj with
        | 0, hj => cases hj; exact World.cell?_setCell_same _ _ _ ((World.cell?_setCell_other _ _ _ _ (by simp)).trans y0)
        | 1, hj => cases hj; exact (World.cell?_setCell_other _ _ _ _ (by simp)).trans (World.cell?_setCell_same _ _ _ z0)
        | j + 2, hj => simp at hj)
      have HB2 := hid ((HB1.out.setCell (p := ⟨w.heap.size, 64, none⟩) (Nat.le_refl _) (.int .u8 ((W.hexD m).toNat : Nat))).setCell (p := ⟨w.heap.size, 63, none⟩) (Nat.le_refl _) (.int .u8 ((W.hexD 1).toNat : Nat)))
      rw [show ([W.hexD 1, W.hexD m] : List UInt8).length = 2 from rfl] at hc
      rw [hwr]
      clear hwr hv2
      go_wp2_with fail
      go_ret2
      exact ⟨rfl, HB2.out⟩
set_option maxRecDepth 100000 in
set_option maxHeartbeats 1000000 in
theorem fmtInt_lo (n : Nat) (hn : n < 16) (w : World) (h : Tz w) : Calls Tryz.prog 80 #[.int .i64 n, .int .i64 16] w fun e w' => e = .returned (.string ⟨#[W.hexD n]⟩) ∧ Below w.heap.size w w' := by
  have cB := bits_lo n hn w h
  have d0 : decide ((n : Int) < 0) = false := decide_eq_false (by omega)
  have hn0 : (0 : Int) ≤ (n : Int) := by omega
  have hn1 : (n : Int) < 16 := by omega
  have e0 : IntKind.u64.wrap (n : Int) = (n : Int) := by rw [IntKind.wrap_u64]; omega
  obtain ⟨c, hc⟩ : ∃ c, W.hexD n = c := ⟨_, rfl⟩
  rw [hc] at cB ⊢
  clear h hc
  go_enter Tryz.func80, Tryz.ntmps80
  go_wp2_with fail
  refine cB.mono ?_
  rintro e w' ⟨rfl, hb⟩
  have HB := hid hb
  clear hb cB
  go_wp2_with fail
  go_ret
  exact ⟨rfl, HB.out⟩
set_option maxRecDepth 100000 in
theorem fmtHex_lo (n : Nat) (hn : n < 16) (w : World) (h : Tz w) : Calls Tryz.prog 58 #[.int .i64 n, .int .i64 16] w fun e w' => e = .returned (.string ⟨#[W.hexD n]⟩) ∧ Below w.heap.size w w' := by
  have cB := fmtInt_lo n hn w h
  obtain ⟨c, hc⟩ : ∃ c, W.hexD n = c := ⟨_, rfl⟩
  rw [hc] at cB ⊢
  clear h hc
  go_enter Tryz.func58, Tryz.ntmps58
  go_wp2_with fail
  refine cB.mono ?_
  rintro e w' ⟨rfl, hb⟩
  have HB := hid hb
  clear hb cB
  go_wp2_with fail
  go_ret
  exact ⟨rfl, HB.out⟩
set_option maxRecDepth 100000 in
set_option maxHeartbeats 1000000 in
theorem fmtInt_hi (n : Nat) (m : Nat) (hm : m < 16) (hn : n = 16 + m) (w : World) (h : Tz w) : Calls Tryz.prog 80 #[.int .i64 n, .int .i64 16] w fun e w' => e = .returned (.string ⟨#[W.hexD 1, W.hexD m]⟩) ∧ Below w.heap.size w w' := by
  have cB := bits_hi n m hm hn w h
  have d0 : decide ((n : Int) < 0) = false := decide_eq_false (by omega)
  have hn0 : (0 : Int) ≤ (n : Int) := by omega
  have hn1 : (n : Int) < 32 := by omega
  have e0 : IntKind.u64.wrap (n : Int) = (n : Int) := by rw [IntKind.wrap_u64]; omega
  obtain ⟨c, hc⟩ : ∃ c, W.hexD m = c := ⟨_, rfl⟩
  rw [hc] at cB ⊢
  clear h hc hn
  go_enter Tryz.func80, Tryz.ntmps80
  go_wp2_with fail
  refine cB.mono ?_
  rintro e w' ⟨rfl, hb⟩
  have HB := hid hb
  clear hb cB
  go_wp2_with fail
  go_ret
  exact ⟨rfl, HB.out⟩
set_option maxRecDepth 100000 in
theorem fmtHex_hi (n : Nat) (m : Nat) (hm : m < 16) (hn : n = 16 + m) (w : World) (h : Tz w) : Calls Tryz.prog 58 #[.int .i64 n, .int .i64 16] w fun e w' => e = .returned (.string ⟨#[W.hexD 1, W.hexD m]⟩) ∧ Below w.heap.size w w' := by
  have cB := fmtInt_hi n m hm hn w h
  obtain ⟨c, hc⟩ : ∃ c, W.hexD m = c := ⟨_, rfl⟩
  rw [hc] at cB ⊢
  clear h hc hn
  go_enter Tryz.func58, Tryz.ntmps58
  go_wp2_with fail
  refine cB.mono ?_
  rintro e w' ⟨rfl, hb⟩
  have HB := hid hb
  clear hb cB
  go_wp2_with fail
  go_ret
  exact ⟨rfl, HB.out⟩
end Go.Proofs.YtphjfighamadgaaGreatDoor
namespace Go.Proofs.YtphjfighamadgaaGreatDoor
open Go.RowKit
open Go.Lib (hid validD decodeL)
namespace J
theorem charB_high (n : Nat) (h : 128 ≤ n) : ∀ x ∈ W.charB n, 128 ≤ x := by
  unfold W.charB
  rw [if_neg (by omega)]
  repeat' split
  all_goals simp
  all_goals omega
theorem valid_step {l : List UInt8} (hne : 0 < l.length) (hv : validD l = true) : ∃ c k : Nat, decodeL l = (c, k) ∧ c ≤ 1114111 ∧ W.charOk (c : Int) = true ∧ W.charL (c : Int) = l.take k ∧ 1 ≤ k ∧ k ≤ 4 ∧ k ≤ l.length ∧ validD (l.drop k) = true := by
  have hl : l ≠ [] := fun e => by rw [e] at hne; simp at hne
  have hs := Lib.validD_step l hl
  rw [hv] at hs
  by_cases h : (decodeL l).1 = 65533 ∧ (decodeL l).2 = 1
  · rw [if_pos h] at hs; cases hs
  · rw [if_neg h] at hs
    have hd : W.headD l = (((decodeL l).1 : Int), ((decodeL l).2 : Int), true) := by unfold W.headD; rw [if_neg h]
    obtain ⟨h1, h2, _, h4, h5, h6⟩ := W.head_good l hne _ _ hd
    rw [Int.toNat_natCast] at h2
    exact ⟨(decodeL l).1, (decodeL l).2, rfl, Lib.decodeL_rune l, h1, h2, by omega, by omega, by omega, hs.symm⟩
theorem byteJ_high {b : UInt8} (h : 128 ≤ b.toNat) : byteJ b = [b] := by
  have hne : ∀ k : UInt8, k.toNat < 128 → b ≠ k := fun k hk e => by rw [e] at h; omega
  unfold byteJ
  rw [if_neg (hne 34 (by decide)), if_neg (hne 92 (by decide)), if_neg (hne 8 (by decide)), if_neg (hne 12 (by decide)), if_neg (hne 10 (by decide)), if_neg (hne 13 (by decide)), if_neg (hne 9 (by decide)), if_neg (by omega), if_neg (by omega)]
theorem quoteIn_high : ∀ (l : List UInt8), (∀ b ∈ l, 128 ≤ b.toNat) → quoteIn l = l
  | [], _ => rfl
  | b :: r, h => by rw [quoteIn, byteJ_high (h b (by simp)), quoteIn_high r (fun x hx => h x (by simp [hx]))]; rfl
theorem high_char {l : List UInt8} {a : UInt8} {r : List UInt8} (hl : l = a :: r) (ha : 128 ≤ a.toNat) {c k : Nat} (hc : c ≤ 1114111) (hk : 1 ≤ k) (h1 : W.charOk (c : Int) = true) (h2 : W.charL (c : Int) = l.take k) : 128 ≤ c ∧ quoteIn (l.take k) = l.take k := by
  have h3 : W.charB c = (l.take k).map UInt8.toNat := by
    rw [← h2]
    unfold W.charL
    rw [if_pos h1, Int.toNat_natCast]
    exact (W.charN_toNat c hc).symm
  have h128 : 128 ≤ c := by
    apply Nat.le_of_not_lt
    intro hlt
    have : W.charB c = [c] := by unfold W.charB; rw [if_pos (by omega)]
    rw [this, hl] at h3
    obtain ⟨k', rfl⟩ : ∃ k', k = k' + 1 := ⟨k - 1, by omega⟩
    simp only [List.take_succ_cons, List.map_cons, List.cons.injEq] at h3
    omega
  refine ⟨h128, quoteIn_high _ (fun b hb => ?_)⟩
  have := charB_high c h128 b.toNat (by rw [h3]; exact List.mem_map_of_mem hb)
  exact this
theorem byteJ_plain {b : UInt8} (h : 32 ≤ b.toNat) (h1 : b ≠ 34) (h2 : b ≠ 92) : byteJ b = [b] := by
  have hne : ∀ k : UInt8, k.toNat < 32 → b ≠ k := fun k hk e => by rw [e] at h; omega
  unfold byteJ
  rw [if_neg h1, if_neg h2, if_neg (hne 8 (by decide)), if_neg (hne 12 (by decide)), if_neg (hne 10 (by decide)), if_neg (hne 13 (by decide)), if_neg (hne 9 (by decide)), if_neg (by omega), if_neg (by omega)]
/-- the seven bytes that are told by a sign -/
def signs : List UInt8 := [34, 92, 8, 12, 10, 13, 9]
theorem sign_not {b : UInt8} (h : ¬ b ∈ signs) : Lib.indexByte signs b = -1 ∧ (b.toNat < 16 → byteJ b = [92, 117, 48, 48, 48, W.hexD b.toNat]) ∧ (16 ≤ b.toNat → b.toNat < 32 → byteJ b = [92, 117, 48, 48, 49, W.hexD (b.toNat - 16)]) := by
  have hall : ∀ n : Fin 256, ¬ UInt8.ofNat n.val ∈ signs → Lib.indexByte signs (UInt8.ofNat n.val) = -1 ∧ ((UInt8.ofNat n.val).toNat < 16 → byteJ (UInt8.ofNat n.val) = [92, 117, 48, 48, 48, W.hexD (UInt8.ofNat n.val).toNat]) ∧ (16 ≤ (UInt8.ofNat n.val).toNat → (UInt8.ofNat n.val).toNat < 32 → byteJ (UInt8.ofNat n.val) = [92, 117, 48, 48, 49, W.hexD ((UInt8.ofNat n.val).toNat - 16)]) := by decide +kernel
  have := hall ⟨b.toNat, b.toNat_lt⟩
  simp only [UInt8.ofNat_toNat] at this
  exact this h
theorem quoteIn_take {l : List UInt8} {p k : Nat} : quoteIn (l.take (p + k)) = quoteIn (l.take p) ++ quoteIn ((l.drop p).take k) := by
  rw [List.take_add, quoteIn_append]
theorem byteJ_len (b : UInt8) : (byteJ b).length ≤ 6 := by
  unfold byteJ
  repeat' split
  all_goals simp
theorem quoteIn_len : ∀ (l : List UInt8), (quoteIn l).length ≤ 6 * l.length
  | [] => Nat.le_refl _
  | b :: r => by
    have h1 := byteJ_len b
    have h2 := quoteIn_len r
    rw [quoteIn, List.length_append, List.length_cons]; omega
end J
theorem kept_after {b : Nat} {w w' : World} (h : Below w.heap.size w w') : Kept b w w' := fun v _o hv _ _ => (h.block v (Go.lt_of_block hv)).trans hv
theorem asc7 : Asc ⟨#[34, 92, 8, 12, 10, 13, 9]⟩ := by
  intro j b h
  have : ∀ x ∈ ([34, 92, 8, 12, 10, 13, 9] : List UInt8), x.toNat < 128 := by decide
  exact this b (List.mem_of_getElem? h)
set_option maxRecDepth 100000 in
set_option maxHeartbeats 4000000 in
theorem quote_any {B bb : Nat} {l : List UInt8} {s : ByteArray} {w : World} (h : Holds B bb l w) (hv : validD s.data.toList = true) (hTZ : ∀ W, Below B w W → Tz W) (hlen : l.length + 6 * s.size + 2 ≤ 10000000000000) :
    Calls Tryz.prog 59 #[.pointer (some ⟨bb, 0, none⟩), .string s] w fun e w' => e = .returned (.tuple #[]) ∧ Holds B bb (l ++ J.quoteL s.data.toList) w' ∧ Below B w w' ∧ Kept bb w w' := by
  have hBw := h.bw
  have hbb := h.lt
  have HTZ := hid hTZ
  have HV := hid hv
  have cB := writeByte_any B bb l 34 w h (by omega) hBw
  clear hTZ hv h
  go_enter Tryz.func59, Tryz.ntmps59
  go_wp2_with fail
  refine cB.mono ?_
  rintro e w1 ⟨rfl, h1, h2, h3⟩
  clear cB
  obtain ⟨X, hX⟩ : ∃ X, w1.heap.size = X := ⟨_, rfl⟩
  have hs1 := h2.size
  have HXB : Hid (B ≤ X ∧ bb < X ∧ w.heap.size ≤ X) := by show _ ∧ _; have := h1.lt; omega
  have HBW := hid (h2.size)
  have HN1 : Hid (Holds B bb (l ++ 34 :: J.quoteIn (s.data.toList.take 0)) (w1.iter s 0)) := by
    show Holds _ _ _ _
    rw [List.take_zero, show J.quoteIn [] = [] from rfl]
    exact Lib.IsBuilderF.alloc h1 _
  have HN2 : Hid ((w1.iter s 0).heap[X]? = some (.stringIter s 0)) := by show _ = _; rw [← hX]; exact World.iter_heap w1 s 0
  have HN3 : Hid (Below B w (w1.iter s 0)) := h2.alloc (by omega) _
  have HN4 : Hid (Kept bb w (w1.iter s 0)) := Lib.OthersKept.trans h3 (kept_after (Below.iter w1 s 0))
  have HX := hid hX
  clear h1 h2 h3 hX hs1
  go_wp2_with fail
  rw [HX.out]
  clear HX
  go_loopw [] (fun wr => ∃ (pos : Nat), pos ≤ s.size ∧ Hid (Holds B bb (l ++ 34 :: J.quoteIn (s.data.toList.take pos)) wr ∧ wr.heap[X]? = some (.stringIter s pos) ∧ (Below B w wr ∧ Kept bb w wr) ∧ validD (s.data.toList.drop pos) = true)) (fun wr => s.size - wr.iterPos X)
  case atStart => exact ⟨0, Nat.zero_le _, hid ⟨HN1.out, HN2.out, ⟨HN3.out, HN4.out⟩, HV.out⟩⟩
  case round =>
    obtain ⟨pos, hpos, HI⟩ := hrel
    clear HN1 HN2 HN3 HN4
    by_cases hp : pos < s.size
    · have hdl := Lib.decodeL_drop s pos
      have hlen : 0 < (s.data.toList.drop pos).length := by rw [drop_len]; omega
      obtain ⟨c, k, hck, hc1, hok, htk, hk1, hk4, hkl, hvd⟩ := J.valid_step hlen HI.out.2.2.2
      rw [hck] at hdl
      rw [drop_len] at hkl
      have hnx : ∀ ty, (Instr.next (.pointer (some ⟨X, 0, none⟩)) true ty).run Tryz.prog wr = _ := fun ty => Lib.run_next_any_at wr X s pos ty HI.out.2.1 hp
      rw [← hdl] at hnx
      simp only at hnx
      have HO2 := hid (HI.out.1.iterAt HI.out.2.1 (pos + k))
      have HT2 := hid (Lib.iterAt_heap wr X s pos (pos + k) HI.out.2.1)
      have HB2 := hid (Lib.below_iterAt HI.out.2.2.1.1 (k := X) (by have := HXB.out; omega) s (pos + k))
      have HK2 : Hid (Kept bb w (wr.iterAt X s (pos + k))) := by
        refine fun v o hv hb hT => ?_
        rw [Lib.iterAt_other wr X v s (pos + k) (by have := Go.lt_of_block hv; have := HXB.out; omega)]
        exact HI.out.2.2.1.2 v o hv hb hT
      have hBr : B ≤ (wr.iterAt X s (pos + k)).heap.size := by rw [Lib.iterAt_size]; have := HI.out.2.2.1.1.size; omega
      have HZ2 : Hid (∀ W, Below B (wr.iterAt X s (pos + k)) W → Tz W) := fun W hW => HTZ.out W (HB2.out.trans hW)
      have HL2 : Hid ((l ++ 34 :: J.quoteIn (s.data.toList.take pos)).length + 6 ≤ 100000000000000) := by
        show _ ≤ _
        have := J.quoteIn_len (s.data.toList.take pos)
        rw [List.length_take, ← Lib.size_eq] at this
        rw [List.length_append, List.length_cons]; omega
      have HQ : Hid (J.quoteIn (s.data.toList.take (pos + k)) = J.quoteIn (s.data.toList.take pos) ++ J.quoteIn ((s.data.toList.drop pos).take k)) := J.quoteIn_take
      have HVD : Hid (validD (s.data.toList.drop (pos + k)) = true) := by show _ = _; rw [← List.drop_drop]; exact hvd
      have hX' : X ≠ bb := by have := HXB.out; omega
      obtain ⟨w2, hw2⟩ : ∃ w2, wr.iterAt X s (pos + k) = w2 := ⟨_, rfl⟩
      rw [hw2] at hnx HO2 HT2 HB2 HK2 hBr HZ2
      obtain ⟨acc, hacc⟩ : ∃ acc, l ++ 34 :: J.quoteIn (s.data.toList.take pos) = acc := ⟨_, rfl⟩
      have HACC := hid hacc
      rw [hacc] at HO2 HL2
      have hdc : s.data.toList.drop pos = s[pos] :: s.data.toList.drop (pos + 1) := drop_at hp
      obtain ⟨a, ha⟩ : ∃ a, s[pos] = a := ⟨_, rfl⟩
      rw [ha] at hdc
      have HDC := hid hdc
      have hpk : pos + k ≤ s.size := by omega
      have hpk1 : pos < pos + k := by omega
      have HTK := hid htk
      clear hdl hlen hvd hw2 hacc hdc ha htk hkl
      have hHL := HL2.out
      by_cases ha : a.toNat < 128
      · have hd := Lib.decodeL_ascii a (s.data.toList.drop (pos + 1)) ha
        rw [← HDC.out, hck] at hd
        obtain ⟨rfl, rfl⟩ : c = a.toNat ∧ k = 1 := by simpa using hd
        clear hd hck
        have HQ1 : Hid (J.quoteIn (s.data.toList.take (pos + 1)) = J.quoteIn (s.data.toList.take pos) ++ J.byteJ a) := by
          show _ = _
          rw [HQ.out, HDC.out]
          simp [J.quoteIn]
        have cI := Tryz.strings_IndexRune_ascii ⟨#[34, 92, 8, 12, 10, 13, 9]⟩ (a.toNat : Int) w2 (by omega) (by omega)
        rw [Int.toNat_natCast, show a.toNat.toUInt8 = a from UInt8.ofNat_toNat] at cI
        have ha0 : (0 : Int) ≤ (a.toNat : Int) := by omega
        by_cases hs : a ∈ J.signs
        · simp only [J.signs, List.mem_cons, List.not_mem_nil, or_false] at hs
          rcases hs with rfl | rfl | rfl | rfl | rfl | rfl | rfl
          · have hi : Lib.indexByte (⟨#[34, 92, 8, 12, 10, 13, 9]⟩ : ByteArray).data.toList 34 = 0 := by decide
            rw [hi] at cI
            have hcat : ∀ X : World, (Op.stringOp .add (⟨#[92]⟩ : ByteArray) ⟨#[34]⟩).run Tryz.prog X = .ok (.string ⟨#[92, 34]⟩) X := fun X => run_string_add_lists (P := Tryz.prog) X [92] [34] (by simp) (by simp)
            have hcut : (⟨#[34, 92, 98, 102, 110, 114, 116]⟩ : ByteArray).extract 0 1 = ⟨#[34]⟩ := by decide
            clear hi
            go_wp2_with fail
            refine cI.mono ?_
            rintro e w3 ⟨rfl, hw⟩
            rw [hw]
            clear hw cI
            go_wp2_with fail
            refine (writeString_any B bb acc ⟨#[92, 34]⟩ w2 HO2.out (by have := HL2.out; show _ + 2 ≤ _; omega) hBr).mono ?_
            rintro e w3 ⟨rfl, h1, h2, h3⟩
            have HO4 := hid h1
            have HT4 := hid (h3.iter HT2.out hX')
            have HB4 := hid (HB2.out.trans h2)
            have HK4 : Hid (Kept bb w w3) := Lib.OthersKept.trans HK2.out h3
            clear h1 h2 h3
            go_wp2_with fail
            go_roundw
            case rel =>
              refine ⟨pos + 1, hpk, hid ⟨?_, HT4.out, ⟨HB4.out, HK4.out⟩, HVD.out⟩⟩
              rw [HQ1.out, show J.byteJ 34 = [92, 34] from rfl, ← List.cons_append, ← List.append_assoc, HACC.out]; exact HO4.out
            case measure =>
              simp only [World.iterPos, HT4.out, HI.out.2.1]
              omega
          · have hi : Lib.indexByte (⟨#[34, 92, 8, 12, 10, 13, 9]⟩ : ByteArray).data.toList 92 = 1 := by decide
            rw [hi] at cI
            have hcat : ∀ X : World, (Op.stringOp .add (⟨#[92]⟩ : ByteArray) ⟨#[92]⟩).run Tryz.prog X = .ok (.string ⟨#[92, 92]⟩) X := fun X => run_string_add_lists (P := Tryz.prog) X [92] [92] (by simp) (by simp)
            have hcut : (⟨#[34, 92, 98, 102, 110, 114, 116]⟩ : ByteArray).extract 1 2 = ⟨#[92]⟩ := by decide
            clear hi
            go_wp2_with fail
            refine cI.mono ?_
            rintro e w3 ⟨rfl, hw⟩
            rw [hw]
            clear hw cI
            go_wp2_with fail
            refine (writeString_any B bb acc ⟨#[92, 92]⟩ w2 HO2.out (by have := HL2.out; show _ + 2 ≤ _; omega) hBr).mono ?_
            rintro e w3 ⟨rfl, h1, h2, h3⟩
            have HO4 := hid h1
            have HT4 := hid (h3.iter HT2.out hX')
            have HB4 := hid (HB2.out.trans h2)
            have HK4 : Hid (Kept bb w w3) := Lib.OthersKept.trans HK2.out h3
            clear h1 h2 h3
            go_wp2_with fail
            go_roundw
            case rel =>
              refine ⟨pos + 1, hpk, hid ⟨?_, HT4.out, ⟨HB4.out, HK4.out⟩, HVD.out⟩⟩
              rw [HQ1.out, show J.byteJ 92 = [92, 92] from rfl, ← List.cons_append, ← List.append_assoc, HACC.out]; exact HO4.out
            case measure =>
              simp only [World.iterPos, HT4.out, HI.out.2.1]
              omega
          · have hi : Lib.indexByte (⟨#[34, 92, 8, 12, 10, 13, 9]⟩ : ByteArray).data.toList 8 = 2 := by decide
            rw [hi] at cI
            have hcat : ∀ X : World, (Op.stringOp .add (⟨#[92]⟩ : ByteArray) ⟨#[98]⟩).run Tryz.prog X = .ok (.string ⟨#[92, 98]⟩) X := fun X => run_string_add_lists (P := Tryz.prog) X [92] [98] (by simp) (by simp)
            have hcut : (⟨#[34, 92, 98, 102, 110, 114, 116]⟩ : ByteArray).extract 2 3 = ⟨#[98]⟩ := by decide
            clear hi
            go_wp2_with fail
            refine cI.mono ?_
            rintro e w3 ⟨rfl, hw⟩
            rw [hw]
            clear hw cI
            go_wp2_with fail
            refine (writeString_any B bb acc ⟨#[92, 98]⟩ w2 HO2.out (by have := HL2.out; show _ + 2 ≤ _; omega) hBr).mono ?_
            rintro e w3 ⟨rfl, h1, h2, h3⟩
            have HO4 := hid h1
            have HT4 := hid (h3.iter HT2.out hX')
            have HB4 := hid (HB2.out.trans h2)
            have HK4 : Hid (Kept bb w w3) := Lib.OthersKept.trans HK2.out h3
            clear h1 h2 h3
            go_wp2_with fail
            go_roundw
            case rel =>
              refine ⟨pos + 1, hpk, hid ⟨?_, HT4.out, ⟨HB4.out, HK4.out⟩, HVD.out⟩⟩
              rw [HQ1.out, show J.byteJ 8 = [92, 98] from rfl, ← List.cons_append, ← List.append_assoc, HACC.out]; exact HO4.out
            case measure =>
              simp only [World.iterPos, HT4.out, HI.out.2.1]
              omega
          · have hi : Lib.indexByte (⟨#[34, 92, 8, 12, 10, 13, 9]⟩ : ByteArray).data.toList 12 = 3 := by decide
            rw [hi] at cI
            have hcat : ∀ X : World, (Op.stringOp .add (⟨#[92]⟩ : ByteArray) ⟨#[102]⟩).run Tryz.prog X = .ok (.string ⟨#[92, 102]⟩) X := fun X => run_string_add_lists (P := Tryz.prog) X [92] [102] (by simp) (by simp)
            have hcut : (⟨#[34, 92, 98, 102, 110, 114, 116]⟩ : ByteArray).extract 3 4 = ⟨#[102]⟩ := by decide
            clear hi
            go_wp2_with fail
            refine cI.mono ?_
            rintro e w3 ⟨rfl, hw⟩
            rw [hw]
            clear hw cI
            go_wp2_with fail
            refine (writeString_any B bb acc ⟨#[92, 102]⟩ w2 HO2.out (by have := HL2.out; show _ + 2 ≤ _; omega) hBr).mono ?_
            rintro e w3 ⟨rfl, h1, h2, h3⟩
            have HO4 := hid h1
            have HT4 := hid (h3.iter HT2.out hX')
            have HB4 := hid (HB2.out.trans h2)
            have HK4 : Hid (Kept bb w w3) := Lib.OthersKept.trans HK2.out h3
            clear h1 h2 h3
            go_wp2_with fail
            go_roundw
            case rel =>
              refine ⟨pos + 1, hpk, hid ⟨?_, HT4.out, ⟨HB4.out, HK4.out⟩, HVD.out⟩⟩
              rw [HQ1.out, show J.byteJ 12 = [92, 102] from rfl, ← List.cons_append, ← List.append_assoc, HACC.out]; exact HO4.out
            case measure =>
              simp only [World.iterPos, HT4.out, HI.out.2.1]
              omega
          · have hi : Lib.indexByte (⟨#[34, 92, 8, 12, 10, 13, 9]⟩ : ByteArray).data.toList 10 = 4 := by decide
            rw [hi] at cI
            have hcat : ∀ X : World, (Op.stringOp .add (⟨#[92]⟩ : ByteArray) ⟨#[110]⟩).run Tryz.prog X = .ok (.string ⟨#[92, 110]⟩) X := fun X => run_string_add_lists (P := Tryz.prog) X [92] [110] (by simp) (by simp)
            have hcut : (⟨#[34, 92, 98, 102, 110, 114, 116]⟩ : ByteArray).extract 4 5 = ⟨#[110]⟩ := by decide
            clear hi
            go_wp2_with fail
            refine cI.mono ?_
            rintro e w3 ⟨rfl, hw⟩
            rw [hw]
            clear hw cI
            go_wp2_with fail
            refine (writeString_any B bb acc ⟨#[92, 110]⟩ w2 HO2.out (by have := HL2.out; show _ + 2 ≤ _; omega) hBr).mono ?_
            rintro e w3 ⟨rfl, h1, h2, h3⟩
            have HO4 := hid h1
            have HT4 := hid (h3.iter HT2.out hX')
            have HB4 := hid (HB2.out.trans h2)
            have HK4 : Hid (Kept bb w w3) := Lib.OthersKept.trans HK2.out h3
            clear h1 h2 h3
            go_wp2_with fail
            go_roundw
            case rel =>
              refine ⟨pos + 1, hpk, hid ⟨?_, HT4.out, ⟨HB4.out, HK4.out⟩, HVD.out⟩⟩
              rw [HQ1.out, show J.byteJ 10 = [92, 110] from rfl, ← List.cons_append, ← List.append_assoc, HACC.out]; exact HO4.out
            case measure =>
              simp only [World.iterPos, HT4.out, HI.out.2.1]
              omega
          · have hi : Lib.indexByte (⟨#[34, 92, 8, 12, 10, 13, 9]⟩ : ByteArray).data.toList 13 = 5 := by decide
            rw [hi] at cI
            have hcat : ∀ X : World, (Op.stringOp .add (⟨#[92]⟩ : ByteArray) ⟨#[114]⟩).run Tryz.prog X = .ok (.string ⟨#[92, 114]⟩) X := fun X => run_string_add_lists (P := Tryz.prog) X [92] [114] (by simp) (by simp)
            have hcut : (⟨#[34, 92, 98, 102, 110, 114, 116]⟩ : ByteArray).extract 5 6 = ⟨#[114]⟩ := by decide
            clear hi
            go_wp2_with fail
            refine cI.mono ?_
            rintro e w3 ⟨rfl, hw⟩
            rw [hw]
            clear hw cI
            go_wp2_with fail
            refine (writeString_any B bb acc ⟨#[92, 114]⟩ w2 HO2.out (by have := HL2.out; show _ + 2 ≤ _; omega) hBr).mono ?_
            rintro e w3 ⟨rfl, h1, h2, h3⟩
            have HO4 := hid h1
            have HT4 := hid (h3.iter HT2.out hX')
            have HB4 := hid (HB2.out.trans h2)
            have HK4 : Hid (Kept bb w w3) := Lib.OthersKept.trans HK2.out h3
            clear h1 h2 h3
            go_wp2_with fail
            go_roundw
            case rel =>
              refine ⟨pos + 1, hpk, hid ⟨?_, HT4.out, ⟨HB4.out, HK4.out⟩, HVD.out⟩⟩
              rw [HQ1.out, show J.byteJ 13 = [92, 114] from rfl, ← List.cons_append, ← List.append_assoc, HACC.out]; exact HO4.out
            case measure =>
              simp only [World.iterPos, HT4.out, HI.out.2.1]
              omega
          · have hi : Lib.indexByte (⟨#[34, 92, 8, 12, 10, 13, 9]⟩ : ByteArray).data.toList 9 = 6 := by decide
            rw [hi] at cI
            have hcat : ∀ X : World, (Op.stringOp .add (⟨#[92]⟩ : ByteArray) ⟨#[116]⟩).run Tryz.prog X = .ok (.string ⟨#[92, 116]⟩) X := fun X => run_string_add_lists (P := Tryz.prog) X [92] [116] (by simp) (by simp)
            have hcut : (⟨#[34, 92, 98, 102, 110, 114, 116]⟩ : ByteArray).extract 6 7 = ⟨#[116]⟩ := by decide
            clear hi
            go_wp2_with fail
            refine cI.mono ?_
            rintro e w3 ⟨rfl, hw⟩
            rw [hw]
            clear hw cI
            go_wp2_with fail
            refine (writeString_any B bb acc ⟨#[92, 116]⟩ w2 HO2.out (by have := HL2.out; show _ + 2 ≤ _; omega) hBr).mono ?_
            rintro e w3 ⟨rfl, h1, h2, h3⟩
            have HO4 := hid h1
            have HT4 := hid (h3.iter HT2.out hX')
            have HB4 := hid (HB2.out.trans h2)
            have HK4 : Hid (Kept bb w w3) := Lib.OthersKept.trans HK2.out h3
            clear h1 h2 h3
            go_wp2_with fail
            go_roundw
            case rel =>
              refine ⟨pos + 1, hpk, hid ⟨?_, HT4.out, ⟨HB4.out, HK4.out⟩, HVD.out⟩⟩
              rw [HQ1.out, show J.byteJ 9 = [92, 116] from rfl, ← List.cons_append, ← List.append_assoc, HACC.out]; exact HO4.out
            case measure =>
              simp only [World.iterPos, HT4.out, HI.out.2.1]
              omega
        · obtain ⟨hi, hl16, hl32⟩ := J.sign_not hs
          rw [show (⟨#[34, 92, 8, 12, 10, 13, 9]⟩ : ByteArray).data.toList = J.signs from rfl, hi] at cI
          by_cases h32 : 32 ≤ a.toNat
          · have t1 : decide ((a.toNat : Int) < 16) = false := decide_eq_false (by omega)
            have t2 : decide ((a.toNat : Int) < 32) = false := decide_eq_false (by omega)
            have t1' : decide (a.toNat < 16) = false := decide_eq_false (by omega)
            have t2' : decide (a.toNat < 32) = false := decide_eq_false (by omega)
            have hbj : J.byteJ a = [a] := J.byteJ_plain h32 (fun e => hs (by rw [e]; decide)) (fun e => hs (by rw [e]; decide))
            have hcl : W.charL (a.toNat : Int) = [a] := by rw [HTK.out, HDC.out]; rfl
            have cW := writeRune_any B bb acc (a.toNat : Int) hok w2 HO2.out (by omega) hBr
            rw [hcl] at cW
            have HBJ := hid hbj
            clear hi hl16 hl32 hs hbj hcl
            go_wp2_with fail
            refine cI.mono ?_
            rintro e w3 ⟨rfl, hw⟩
            rw [hw]
            clear hw cI
            go_wp2_with fail
            refine cW.mono ?_
            rintro e w3 ⟨⟨nn, rfl⟩, h1, h2, h3⟩
            have HO4 := hid h1
            have HT4 := hid (h3.iter HT2.out hX')
            have HB4 := hid (HB2.out.trans h2)
            have HK4 : Hid (Kept bb w w3) := Lib.OthersKept.trans HK2.out h3
            clear h1 h2 h3
            go_wp2_with fail
            go_roundw
            case rel =>
              refine ⟨pos + 1, hpk, hid ⟨?_, HT4.out, ⟨HB4.out, HK4.out⟩, HVD.out⟩⟩
              rw [HQ1.out, HBJ.out, ← List.cons_append, ← List.append_assoc, HACC.out]; exact HO4.out
            case measure =>
              simp only [World.iterPos, HT4.out, HI.out.2.1]
              omega
          · by_cases h16 : a.toNat < 16
            · have t1 : decide ((a.toNat : Int) < 16) = true := decide_eq_true (by omega)
              have t1' : decide (a.toNat < 16) = true := decide_eq_true (by omega)
              have hbj := hl16 h16
              have cF := fmtHex_lo a.toNat h16 w2 (HZ2.out w2 (Below.refl _ _))
              obtain ⟨hx, hhx⟩ : ∃ hx, W.hexD a.toNat = hx := ⟨_, rfl⟩
              rw [hhx] at cF hbj
              have hcat : ∀ X : World, (Op.stringOp .add (⟨#[92, 117, 48, 48, 48]⟩ : ByteArray) ⟨#[hx]⟩).run Tryz.prog X = .ok (.string ⟨#[92, 117, 48, 48, 48, hx]⟩) X := fun X => run_string_add_lists (P := Tryz.prog) X [92, 117, 48, 48, 48] [hx] (by simp) (by simp)
              have HBJ := hid hbj
              clear hi hl16 hl32 hs hbj hhx
              go_wp2_with fail
              refine cI.mono ?_
              rintro e w3 ⟨rfl, hw⟩
              rw [hw]
              clear hw cI
              go_wp2_with fail
              refine cF.mono ?_
              rintro e w2' ⟨rfl, hf⟩
              have HO3 := hid (Holds.after HO2.out hf)
              have HT3 := hid ((hf.block X (Go.lt_of_block HT2.out)).trans HT2.out)
              have hBr3 : B ≤ w2'.heap.size := Nat.le_trans hBr hf.size
              have HB3 := hid (HB2.out.trans (hf.mono hBr))
              have HK3 : Hid (Kept bb w w2') := Lib.OthersKept.trans HK2.out (kept_after hf)
              clear hf
              go_wp2_with fail
              refine (writeString_any B bb acc ⟨#[92, 117, 48, 48, 48, hx]⟩ w2' HO3.out (by have := HL2.out; show _ + 6 ≤ _; omega) hBr3).mono ?_
              rintro e w3 ⟨rfl, h1, h2, h3⟩
              have HO4 := hid h1
              have HT4 := hid (h3.iter HT3.out hX')
              have HB4 := hid (HB3.out.trans h2)
              have HK4 : Hid (Kept bb w w3) := Lib.OthersKept.trans HK3.out h3
              clear h1 h2 h3
              go_wp2_with fail
              go_roundw
              case rel =>
                refine ⟨pos + 1, hpk, hid ⟨?_, HT4.out, ⟨HB4.out, HK4.out⟩, HVD.out⟩⟩
                rw [HQ1.out, HBJ.out, ← List.cons_append, ← List.append_assoc, HACC.out]; exact HO4.out
              case measure =>
                simp only [World.iterPos, HT4.out, HI.out.2.1]
                omega
            · have t1 : decide ((a.toNat : Int) < 16) = false := decide_eq_false (by omega)
              have t2 : decide ((a.toNat : Int) < 32) = true := decide_eq_true (by omega)
              have t1' : decide (a.toNat < 16) = false := decide_eq_false (by omega)
              have t2' : decide (a.toNat < 32) = true := decide_eq_true (by omega)
              have hbj := hl32 (by omega) (by omega)
              have cF := fmtHex_hi a.toNat (a.toNat - 16) (by omega) (by omega) w2 (HZ2.out w2 (Below.refl _ _))
              obtain ⟨hx, hhx⟩ : ∃ hx, W.hexD (a.toNat - 16) = hx := ⟨_, rfl⟩
              rw [hhx] at cF hbj
              have hcat : ∀ X : World, (Op.stringOp .add (⟨#[92, 117, 48, 48]⟩ : ByteArray) ⟨#[49, hx]⟩).run Tryz.prog X = .ok (.string ⟨#[92, 117, 48, 48, 49, hx]⟩) X := fun X => run_string_add_lists (P := Tryz.prog) X [92, 117, 48, 48] [49, hx] (by simp) (by simp)
              have HBJ := hid hbj
              clear hi hl16 hl32 hs hbj hhx
              go_wp2_with fail
              refine cI.mono ?_
              rintro e w3 ⟨rfl, hw⟩
              rw [hw]
              clear hw cI
              go_wp2_with fail
              refine cF.mono ?_
              rintro e w2' ⟨rfl, hf⟩
              have HO3 := hid (Holds.after HO2.out hf)
              have HT3 := hid ((hf.block X (Go.lt_of_block HT2.out)).trans HT2.out)
              have hBr3 : B ≤ w2'.heap.size := Nat.le_trans hBr hf.size
              have HB3 := hid (HB2.out.trans (hf.mono hBr))
              have HK3 : Hid (Kept bb w w2') := Lib.OthersKept.trans HK2.out (kept_after hf)
              clear hf
              go_wp2_with fail
              refine (writeString_any B bb acc ⟨#[92, 117, 48, 48, 49, hx]⟩ w2' HO3.out (by have := HL2.out; show _ + 6 ≤ _; omega) hBr3).mono ?_
              rintro e w3 ⟨rfl, h1, h2, h3⟩
              have HO4 := hid h1
              have HT4 := hid (h3.iter HT3.out hX')
              have HB4 := hid (HB3.out.trans h2)
              have HK4 : Hid (Kept bb w w3) := Lib.OthersKept.trans HK3.out h3
              clear h1 h2 h3
              go_wp2_with fail
              go_roundw
              case rel =>
                refine ⟨pos + 1, hpk, hid ⟨?_, HT4.out, ⟨HB4.out, HK4.out⟩, HVD.out⟩⟩
                rw [HQ1.out, HBJ.out, ← List.cons_append, ← List.append_assoc, HACC.out]; exact HO4.out
              case measure =>
                simp only [World.iterPos, HT4.out, HI.out.2.1]
                omega
      · obtain ⟨hc128, hqh⟩ := J.high_char HDC.out (by omega) hc1 hk1 hok HTK.out
        have t1 : decide ((c : Int) < 16) = false := decide_eq_false (by omega)
        have t2 : decide ((c : Int) < 32) = false := decide_eq_false (by omega)
        have t1' : decide (c < 16) = false := decide_eq_false (by omega)
        have t2' : decide (c < 32) = false := decide_eq_false (by omega)
        have cI := indexRune_high ⟨#[34, 92, 8, 12, 10, 13, 9]⟩ asc7 (by decide) (c : Int) (by omega) (by omega) w2
        have HQH := hid hqh
        have hkt : (W.charL (c : Int)).length ≤ 4 := by rw [HTK.out, List.length_take]; omega
        have HOK := hid hok
        have HKT := hid hkt
        have hc0 : (0 : Int) ≤ (c : Int) := by omega
        clear hqh hck hok hkt
        go_wp2_with fail
        refine cI.mono ?_
        rintro e w2' ⟨rfl, hf⟩
        have HO3 := hid (Holds.after HO2.out hf)
        have HT3 := hid ((hf.block X (Go.lt_of_block HT2.out)).trans HT2.out)
        have hBr3 : B ≤ w2'.heap.size := Nat.le_trans hBr hf.size
        have HB3 := hid (HB2.out.trans (hf.mono hBr))
        have HK3 : Hid (Kept bb w w2') := Lib.OthersKept.trans HK2.out (kept_after hf)
        clear hf
        clear cI
        go_wp2_with fail
        refine (writeRune_any B bb acc (c : Int) HOK.out w2' HO3.out (by omega) hBr3).mono ?_
        rintro e w3 ⟨⟨nn, rfl⟩, h1, h2, h3⟩
        have HO4 := hid h1
        have HT4 := hid (h3.iter HT3.out hX')
        have HB4 := hid (HB3.out.trans h2)
        have HK4 : Hid (Kept bb w w3) := Lib.OthersKept.trans HK3.out h3
        clear h1 h2 h3
        go_wp2_with fail
        go_roundw
        case rel =>
          refine ⟨pos + k, hpk, hid ⟨?_, HT4.out, ⟨HB4.out, HK4.out⟩, HVD.out⟩⟩
          rw [HQ.out, HQH.out, ← HTK.out, ← List.cons_append, ← List.append_assoc, HACC.out]; exact HO4.out
        case measure =>
          simp only [World.iterPos, HT4.out, HI.out.2.1]
          omega
    · have hnx : ∀ ty, (Instr.next (.pointer (some ⟨X, 0, none⟩)) true ty).run Tryz.prog wr = _ := fun ty => Lib.run_next_end_at wr X s pos ty HI.out.2.1 hp
      have hpe : s.data.toList.take pos = s.data.toList := List.take_of_length_le (by rw [← Lib.size_eq]; omega)
      have hql := J.quoteIn_len s.data.toList
      rw [← Lib.size_eq] at hql
      have hO := HI.out.1
      rw [hpe] at hO
      have cB := writeByte_any B bb _ 34 wr hO (by rw [List.length_append, List.length_cons]; omega) (by have := HI.out.2.2.1.1.size; omega)
      clear hpe hql hO
      go_wp2_with fail
      refine cB.mono ?_
      rintro e w3 ⟨rfl, h1, h2, h3⟩
      have HF : Hid (Holds B bb (l ++ J.quoteL s.data.toList) w3 ∧ Below B w w3 ∧ Kept bb w w3) := ⟨by unfold J.quoteL; rw [← List.cons_append, ← List.append_assoc]; exact h1, HI.out.2.2.1.1.trans h2, Lib.OthersKept.trans HI.out.2.2.1.2 h3⟩
      clear h1 h2 h3 cB
      go_wp2_with fail
      go_end0
      exact ⟨rfl, HF.out⟩
end Go.Proofs.YtphjfighamadgaaGreatDoor
