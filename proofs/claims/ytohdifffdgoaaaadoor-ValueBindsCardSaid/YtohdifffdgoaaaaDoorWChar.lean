/- The walks of the functions on characters: what the document's answer and the program say of a number. -/
import Derived.Test.YtohdifffdgoaaaaDoorProg
import Derived.Test.YtohdifffdgoaaaaDoorWPlainB
import Derived.Test.YtohdifffdgoaaaaDoorWName
import Derived.Test.YtohdifffdgoaaaaDoorShelf
import Derived.WalkKit
import Derived.WalkLawsBesides
import Derived.BigGuardPart
import Derived.Lib.Hide
namespace Go.Proofs.YtohdifffdgoaaaaDoor
open Go.RowKit Go.Lib

/-- 'string([]byte{..})' of the block that was made last -/
theorem conv_new (W : World) (ns : List Int) (k : Nat) (hk : ns.length = k) :
    (convert 59 9 (.slice (some ⟨W.heap.size, 0, none⟩) k k)).run Tryd.prog (W.alloc (.cells (ns.map (Value.int .u8)).toArray 5)) = .ok (.string ⟨(ns.map fun n => UInt8.ofNat n.toNat).toArray⟩) (W.alloc (.cells (ns.map (Value.int .u8)).toArray 5)) := by
  subst hk
  rw [run_convert_bytes_string _ _ _ _ _ _ _ Tryd.underlying59 Tryd.underlying5 Tryd.underlying9]
  have hl : (loadCells ⟨W.heap.size, 0, none⟩ ns.length).run Tryd.prog (W.alloc (.cells (ns.map (Value.int .u8)).toArray 5)) = .ok (ns.map (Value.int .u8)).toArray (W.alloc (.cells (ns.map (Value.int .u8)).toArray 5)) := by
    have := run_loadCells_list (P := Tryd.prog) (W.alloc (.cells (ns.map (Value.int .u8)).toArray 5)) ⟨W.heap.size, 0, none⟩ (ns.map (Value.int .u8)) (fun j v hv => by
      have hadd : (⟨W.heap.size, 0, none⟩ : Addr).add j = ⟨W.heap.size, j, none⟩ := by unfold Addr.add; split <;> simp_all
      rw [hadd, cell_of_row _ _ j _ _ (0, 0) (heap_alloc_new W _)]
      simpa using hv)
    simpa using this
  rw [run_bytesToString _ _ _ _ ns hl]
  have hf : ∀ (l : List Int) (r : ByteArray), l.foldl (fun r n => r.push (UInt8.ofNat n.toNat)) r = ⟨(r.data.toList ++ l.map fun n => UInt8.ofNat n.toNat).toArray⟩ := by
    intro l
    induction l with
    | nil => intro r; simp
    | cons n l ih => intro r; rw [List.foldl_cons, ih]; simp [ByteArray.push]
  rw [hf]
  simp

namespace W
theorem ofNat_congr {a b : Nat} (h : a = b) : UInt8.ofNat a = UInt8.ofNat b := by rw [h]
theorem charL_bad (c : Int) (h : charOk c = false) : charL c = [] := by unfold charL; rw [h]; rfl
theorem charL_1 (c : Int) (h0 : 0 ≤ c) (h1 : c ≤ 127) : charL c = [UInt8.ofNat c.toNat] := by
  unfold charL charN charB
  rw [if_pos (by simp [charOk]; omega), if_pos (by omega)]; rfl
theorem charL_2 (c : Int) (h0 : 128 ≤ c) (h1 : c ≤ 2047) : charL c = [UInt8.ofNat (192 + c / 64).toNat, UInt8.ofNat (128 + c % 64).toNat] := by
  unfold charL charN charB
  rw [if_pos (by simp [charOk]; omega), if_neg (by omega), if_pos (by omega)]
  simp only [List.map_cons, List.map_nil]
  rw [ofNat_congr (show 192 + c.toNat / 64 = (192 + c / 64).toNat by omega), ofNat_congr (show 128 + c.toNat % 64 = (128 + c % 64).toNat by omega)]
theorem charL_3 (c : Int) (h0 : 2048 ≤ c) (h1 : c ≤ 65535) (h : charOk c = true) : charL c = [UInt8.ofNat (224 + c / 4096).toNat, UInt8.ofNat (128 + c / 64 % 64).toNat, UInt8.ofNat (128 + c % 64).toNat] := by
  unfold charL charN charB
  rw [if_pos h, if_neg (by omega), if_neg (by omega), if_pos (by omega)]
  simp only [List.map_cons, List.map_nil]
  rw [ofNat_congr (show 224 + c.toNat / 4096 = (224 + c / 4096).toNat by omega), ofNat_congr (show 128 + c.toNat / 64 % 64 = (128 + c / 64 % 64).toNat by omega), ofNat_congr (show 128 + c.toNat % 64 = (128 + c % 64).toNat by omega)]
theorem charL_4 (c : Int) (h0 : 65536 ≤ c) (h1 : c ≤ 1114111) : charL c = [UInt8.ofNat (240 + c / 262144).toNat, UInt8.ofNat (128 + c / 4096 % 64).toNat, UInt8.ofNat (128 + c / 64 % 64).toNat, UInt8.ofNat (128 + c % 64).toNat] := by
  unfold charL charN charB
  rw [if_pos (by simp [charOk]; omega), if_neg (by omega), if_neg (by omega), if_neg (by omega)]
  simp only [List.map_cons, List.map_nil]
  rw [ofNat_congr (show 240 + c.toNat / 262144 = (240 + c / 262144).toNat by omega), ofNat_congr (show 128 + c.toNat / 4096 % 64 = (128 + c / 4096 % 64).toNat by omega), ofNat_congr (show 128 + c.toNat / 64 % 64 = (128 + c / 64 % 64).toNat by omega), ofNat_congr (show 128 + c.toNat % 64 = (128 + c % 64).toNat by omega)]
end W
/-- two results, a text and a bool -/
theorem ret_sb {l m : List UInt8} {a b : Bool} (h : l = m) (h' : a = b) : Ending.returned (.tuple #[.string ⟨l.toArray⟩, .bool a]) = .returned (.tuple #[.string ⟨m.toArray⟩, .bool b]) := by rw [h, h']

set_option maxRecDepth 100000 in
set_option maxHeartbeats 1000000 in
theorem refChar_a (c : Int) (w : World) (b : c ≤ -1) :
    Calls Tryd.prog 105 #[.int .i64 c] w fun e w' => e = .returned (.tuple #[.string ⟨(W.charL c).toArray⟩, .bool (W.charOk c)]) ∧ Below w.heap.size w w' := by
  have hok : W.charOk c = false := by simp [W.charOk]; omega
  have hL := Lib.hid (W.charL_bad c hok)
  have hO := Lib.hid hok
  clear hok
  have t0 : decide (c < 0) = true := by simp; omega
  have t1 : decide (1114111 < c) = false := by simp; omega
  have t2 : decide (55296 ≤ c) = false := by simp; omega
  have t3 : decide (c ≤ 57343) = true := by simp; omega
  have t4 : decide (c ≤ 127) = true := by simp; omega
  have t5 : decide (c ≤ 2047) = true := by simp; omega
  have t6 : decide (c ≤ 65535) = true := by simp; omega
  go_enter Tryd.func105, Tryd.ntmps105
  go_wp2
  go_ret2
  exact ⟨ret_sb hL.out.symm hO.out.symm, Below.refl _ _⟩
set_option maxRecDepth 100000 in
set_option maxHeartbeats 1000000 in
theorem refChar_b (c : Int) (w : World) (a : 1114112 ≤ c) :
    Calls Tryd.prog 105 #[.int .i64 c] w fun e w' => e = .returned (.tuple #[.string ⟨(W.charL c).toArray⟩, .bool (W.charOk c)]) ∧ Below w.heap.size w w' := by
  have hok : W.charOk c = false := by simp [W.charOk]; omega
  have hL := Lib.hid (W.charL_bad c hok)
  have hO := Lib.hid hok
  clear hok
  have t0 : decide (c < 0) = false := by simp; omega
  have t1 : decide (1114111 < c) = true := by simp; omega
  have t2 : decide (55296 ≤ c) = true := by simp; omega
  have t3 : decide (c ≤ 57343) = false := by simp; omega
  have t4 : decide (c ≤ 127) = false := by simp; omega
  have t5 : decide (c ≤ 2047) = false := by simp; omega
  have t6 : decide (c ≤ 65535) = false := by simp; omega
  go_enter Tryd.func105, Tryd.ntmps105
  go_wp2
  go_ret2
  exact ⟨ret_sb hL.out.symm hO.out.symm, Below.refl _ _⟩
set_option maxRecDepth 100000 in
set_option maxHeartbeats 1000000 in
theorem refChar_s (c : Int) (w : World) (a : 55296 ≤ c) (b : c ≤ 57343) :
    Calls Tryd.prog 105 #[.int .i64 c] w fun e w' => e = .returned (.tuple #[.string ⟨(W.charL c).toArray⟩, .bool (W.charOk c)]) ∧ Below w.heap.size w w' := by
  have hok : W.charOk c = false := by simp [W.charOk]; omega
  have hL := Lib.hid (W.charL_bad c hok)
  have hO := Lib.hid hok
  clear hok
  have t0 : decide (c < 0) = false := by simp; omega
  have t1 : decide (1114111 < c) = false := by simp; omega
  have t2 : decide (55296 ≤ c) = true := by simp; omega
  have t3 : decide (c ≤ 57343) = true := by simp; omega
  have t4 : decide (c ≤ 127) = false := by simp; omega
  have t5 : decide (c ≤ 2047) = false := by simp; omega
  have t6 : decide (c ≤ 65535) = true := by simp; omega
  go_enter Tryd.func105, Tryd.ntmps105
  go_wp2
  go_ret2
  exact ⟨ret_sb hL.out.symm hO.out.symm, Below.refl _ _⟩
set_option maxRecDepth 100000 in
set_option maxHeartbeats 1000000 in
theorem refChar_1 (c : Int) (w : World) (a : 0 ≤ c) (b : c ≤ 127) :
    Calls Tryd.prog 105 #[.int .i64 c] w fun e w' => e = .returned (.tuple #[.string ⟨(W.charL c).toArray⟩, .bool (W.charOk c)]) ∧ Below w.heap.size w w' := by
  have hok : W.charOk c = true := by simp [W.charOk]; omega
  have hL := Lib.hid (W.charL_1 c a b)
  have hc := conv_new w [c] 1 rfl
  simp only [List.map_cons, List.map_nil] at hc
  have hO := Lib.hid hok
  clear hok
  have t0 : decide (c < 0) = false := by simp; omega
  have t1 : decide (1114111 < c) = false := by simp; omega
  have t2 : decide (55296 ≤ c) = false := by simp; omega
  have t3 : decide (c ≤ 57343) = true := by simp; omega
  have t4 : decide (c ≤ 127) = true := by simp; omega
  have t5 : decide (c ≤ 2047) = true := by simp; omega
  have t6 : decide (c ≤ 65535) = true := by simp; omega
  go_enter Tryd.func105, Tryd.ntmps105
  go_wp2
  go_ret2
  exact ⟨ret_sb hL.out.symm hO.out.symm, (Below.refl _ _).alloc (Nat.le_refl _) _⟩
set_option maxRecDepth 100000 in
set_option maxHeartbeats 1000000 in
theorem refChar_2 (c : Int) (w : World) (a : 128 ≤ c) (b : c ≤ 2047) :
    Calls Tryd.prog 105 #[.int .i64 c] w fun e w' => e = .returned (.tuple #[.string ⟨(W.charL c).toArray⟩, .bool (W.charOk c)]) ∧ Below w.heap.size w w' := by
  have hok : W.charOk c = true := by simp [W.charOk]; omega
  have hL := Lib.hid (W.charL_2 c a b)
  have hc := conv_new w [192 + c / 64, 128 + c % 64] 2 rfl
  simp only [List.map_cons, List.map_nil] at hc
  have hO := Lib.hid hok
  clear hok
  have t0 : decide (c < 0) = false := by simp; omega
  have t1 : decide (1114111 < c) = false := by simp; omega
  have t2 : decide (55296 ≤ c) = false := by simp; omega
  have t3 : decide (c ≤ 57343) = true := by simp; omega
  have t4 : decide (c ≤ 127) = false := by simp; omega
  have t5 : decide (c ≤ 2047) = true := by simp; omega
  have t6 : decide (c ≤ 65535) = true := by simp; omega
  go_enter Tryd.func105, Tryd.ntmps105
  go_wp2
  go_ret2
  exact ⟨ret_sb hL.out.symm hO.out.symm, (Below.refl _ _).alloc (Nat.le_refl _) _⟩
set_option maxRecDepth 100000 in
set_option maxHeartbeats 1000000 in
theorem refChar_3a (c : Int) (w : World) (a : 2048 ≤ c) (b : c ≤ 55295) :
    Calls Tryd.prog 105 #[.int .i64 c] w fun e w' => e = .returned (.tuple #[.string ⟨(W.charL c).toArray⟩, .bool (W.charOk c)]) ∧ Below w.heap.size w w' := by
  have hok : W.charOk c = true := by simp [W.charOk]; omega
  have hL := Lib.hid (W.charL_3 c a (by omega) hok)
  have hc := conv_new w [224 + c / 4096, 128 + c / 64 % 64, 128 + c % 64] 3 rfl
  simp only [List.map_cons, List.map_nil] at hc
  have hO := Lib.hid hok
  clear hok
  have t0 : decide (c < 0) = false := by simp; omega
  have t1 : decide (1114111 < c) = false := by simp; omega
  have t2 : decide (55296 ≤ c) = false := by simp; omega
  have t3 : decide (c ≤ 57343) = true := by simp; omega
  have t4 : decide (c ≤ 127) = false := by simp; omega
  have t5 : decide (c ≤ 2047) = false := by simp; omega
  have t6 : decide (c ≤ 65535) = true := by simp; omega
  go_enter Tryd.func105, Tryd.ntmps105
  go_wp2
  go_ret2
  exact ⟨ret_sb hL.out.symm hO.out.symm, (Below.refl _ _).alloc (Nat.le_refl _) _⟩
set_option maxRecDepth 100000 in
set_option maxHeartbeats 1000000 in
theorem refChar_3b (c : Int) (w : World) (a : 57344 ≤ c) (b : c ≤ 65535) :
    Calls Tryd.prog 105 #[.int .i64 c] w fun e w' => e = .returned (.tuple #[.string ⟨(W.charL c).toArray⟩, .bool (W.charOk c)]) ∧ Below w.heap.size w w' := by
  have hok : W.charOk c = true := by simp [W.charOk]; omega
  have hL := Lib.hid (W.charL_3 c (by omega) b hok)
  have hc := conv_new w [224 + c / 4096, 128 + c / 64 % 64, 128 + c % 64] 3 rfl
  simp only [List.map_cons, List.map_nil] at hc
  have hO := Lib.hid hok
  clear hok
  have t0 : decide (c < 0) = false := by simp; omega
  have t1 : decide (1114111 < c) = false := by simp; omega
  have t2 : decide (55296 ≤ c) = true := by simp; omega
  have t3 : decide (c ≤ 57343) = false := by simp; omega
  have t4 : decide (c ≤ 127) = false := by simp; omega
  have t5 : decide (c ≤ 2047) = false := by simp; omega
  have t6 : decide (c ≤ 65535) = true := by simp; omega
  go_enter Tryd.func105, Tryd.ntmps105
  go_wp2
  go_ret2
  exact ⟨ret_sb hL.out.symm hO.out.symm, (Below.refl _ _).alloc (Nat.le_refl _) _⟩
set_option maxRecDepth 100000 in
set_option maxHeartbeats 1000000 in
theorem refChar_4 (c : Int) (w : World) (a : 65536 ≤ c) (b : c ≤ 1114111) :
    Calls Tryd.prog 105 #[.int .i64 c] w fun e w' => e = .returned (.tuple #[.string ⟨(W.charL c).toArray⟩, .bool (W.charOk c)]) ∧ Below w.heap.size w w' := by
  have hok : W.charOk c = true := by simp [W.charOk]; omega
  have hL := Lib.hid (W.charL_4 c a b)
  have hc := conv_new w [240 + c / 262144, 128 + c / 4096 % 64, 128 + c / 64 % 64, 128 + c % 64] 4 rfl
  simp only [List.map_cons, List.map_nil] at hc
  have hO := Lib.hid hok
  clear hok
  have t0 : decide (c < 0) = false := by simp; omega
  have t1 : decide (1114111 < c) = false := by simp; omega
  have t2 : decide (55296 ≤ c) = true := by simp; omega
  have t3 : decide (c ≤ 57343) = false := by simp; omega
  have t4 : decide (c ≤ 127) = false := by simp; omega
  have t5 : decide (c ≤ 2047) = false := by simp; omega
  have t6 : decide (c ≤ 65535) = false := by simp; omega
  go_enter Tryd.func105, Tryd.ntmps105
  go_wp2
  go_ret2
  exact ⟨ret_sb hL.out.symm hO.out.symm, (Below.refl _ _).alloc (Nat.le_refl _) _⟩
theorem refChar_any (c : Int) (w : World) :
    Calls Tryd.prog 105 #[.int .i64 c] w fun e w' => e = .returned (.tuple #[.string ⟨(W.charL c).toArray⟩, .bool (W.charOk c)]) ∧ Below w.heap.size w w' := by
  by_cases h1 : c ≤ -1
  · exact refChar_a c w h1
  by_cases h2 : 1114112 ≤ c
  · exact refChar_b c w h2
  by_cases h3 : c ≤ 127
  · exact refChar_1 c w (by omega) h3
  by_cases h4 : c ≤ 2047
  · exact refChar_2 c w (by omega) h4
  by_cases h5 : c ≤ 55295
  · exact refChar_3a c w (by omega) h5
  by_cases h6 : c ≤ 57343
  · exact refChar_s c w (by omega) h6
  by_cases h7 : c ≤ 65535
  · exact refChar_3b c w (by omega) h7
  exact refChar_4 c w (by omega) (by omega)
end Go.Proofs.YtohdifffdgoaaaaDoor
