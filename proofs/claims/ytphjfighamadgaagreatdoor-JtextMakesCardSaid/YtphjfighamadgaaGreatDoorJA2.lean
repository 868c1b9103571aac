/- Places in a text; characters; values in memory. -/
import Derived.Test.YtphjfighamadgaaGreatDoorProg
import Derived.Test.YtphjfighamadgaaGreatDoorJA1
import Derived.Test.YtphjfighamadgaaGreatDoorShelf
import Derived.WalkKit
import Derived.WalkLawsBesides
import Derived.BigGuardPart
import Derived.Lib.Hide
import Derived.Lib.Strings
import Derived.Deep.DeepMust
import Derived.ProofKit
import Derived.Deep.AppendLies
import Derived.WalkSmall
import Derived.Test.YtphjfighamadgaaGreatDoorShelfI
import Derived.Laws.RangeAny
import Derived.Lib.OthersKept
import Derived.Lib.IndexLaws
import Derived.Deep.QuietTactic
import Derived.BigQuiet
import Derived.Deep.LoopGhost
import Derived.WalkMore
namespace Go.Proofs.YtphjfighamadgaaGreatDoor
open Go.RowKit Go.Lib

/-- 'string([]byte{..})' of the block that was made last -/
theorem conv_new (W : World) (ns : List Int) (k : Nat) (hk : ns.length = k) :
    (convert 67 9 (.slice (some ⟨W.heap.size, 0, none⟩) k k)).run Tryz.prog (W.alloc (.cells (ns.map (Value.int .u8)).toArray 5)) = .ok (.string ⟨(ns.map fun n => UInt8.ofNat n.toNat).toArray⟩) (W.alloc (.cells (ns.map (Value.int .u8)).toArray 5)) := by
  subst hk
  rw [run_convert_bytes_string _ _ _ _ _ _ _ Tryz.underlying67 Tryz.underlying5 Tryz.underlying9]
  have hl : (loadCells ⟨W.heap.size, 0, none⟩ ns.length).run Tryz.prog (W.alloc (.cells (ns.map (Value.int .u8)).toArray 5)) = .ok (ns.map (Value.int .u8)).toArray (W.alloc (.cells (ns.map (Value.int .u8)).toArray 5)) := by
    have := run_loadCells_list (P := Tryz.prog) (W.alloc (.cells (ns.map (Value.int .u8)).toArray 5)) ⟨W.heap.size, 0, none⟩ (ns.map (Value.int .u8)) (fun j v hv => by
      have hadd : (⟨W.heap.size, 0, none⟩ : Addr).add j = ⟨W.heap.size, j, none⟩ := by unfold Addr.add; split <;> simp_all
      rw [hadd, cell_of_row _ _ j _ _ (0, 0) (heap_alloc_new W _)]
      simpa using hv)
    simpa using this
  rw [run_bytesToString _ _ _ _ ns hl]
  have hf : ∀ (l : List Int) (r : ByteArray), l.foldl (fun r n => r.push (UInt8.ofNat n.toNat)) r = ⟨(r.data.toList ++ l.map fun n => UInt8.ofNat n.toNat).toArray⟩ := by
    intro l
    induction l with
    | nil => intro r; simp
    | cons n l ih => intro r; rw [List.foldl_cons, ih]; simp [ByteArray.push]
  rw [hf]
  simp

namespace W
theorem ofNat_congr {a b : Nat} (h : a = b) : UInt8.ofNat a = UInt8.ofNat b := by rw [h]
theorem charL_bad (c : Int) (h : charOk c = false) : charL c = [] := by unfold charL; rw [h]; rfl
theorem charL_1 (c : Int) (h0 : 0 ≤ c) (h1 : c ≤ 127) : charL c = [UInt8.ofNat c.toNat] := by
  unfold charL charN charB
  rw [if_pos (by simp [charOk]; omega), if_pos (by omega)]; rfl
theorem charL_2 (c : Int) (h0 : 128 ≤ c) (h1 : c ≤ 2047) : charL c = [UInt8.ofNat (192 + c / 64).toNat, UInt8.ofNat (128 + c % 64).toNat] := by
  unfold charL charN charB
  rw [if_pos (by simp [charOk]; omega), if_neg (by omega), if_pos (by omega)]
  simp only [List.map_cons, List.map_nil]
  rw [ofNat_congr (show 192 + c.toNat / 64 = (192 + c / 64).toNat by omega), ofNat_congr (show 128 + c.toNat % 64 = (128 + c % 64).toNat by omega)]
theorem charL_3 (c : Int) (h0 : 2048 ≤ c) (h1 : c ≤ 65535) (h : charOk c = true) : charL c = [UInt8.ofNat (224 + c / 4096).toNat, UInt8.ofNat (128 + c / 64 % 64).toNat, UInt8.ofNat (128 + c % 64).toNat] := by
  unfold charL charN charB
  rw [if_pos h, if_neg (by omega), if_neg (by omega), if_pos (by omega)]
  simp only [List.map_cons, List.map_nil]
  rw [ofNat_congr (show 224 + c.toNat / 4096 = (224 + c / 4096).toNat by omega), ofNat_congr (show 128 + c.toNat / 64 % 64 = (128 + c / 64 % 64).toNat by omega), ofNat_congr (show 128 + c.toNat % 64 = (128 + c % 64).toNat by omega)]
theorem charL_4 (c : Int) (h0 : 65536 ≤ c) (h1 : c ≤ 1114111) : charL c = [UInt8.ofNat (240 + c / 262144).toNat, UInt8.ofNat (128 + c / 4096 % 64).toNat, UInt8.ofNat (128 + c / 64 % 64).toNat, UInt8.ofNat (128 + c % 64).toNat] := by
  unfold charL charN charB
  rw [if_pos (by simp [charOk]; omega), if_neg (by omega), if_neg (by omega), if_neg (by omega)]
  simp only [List.map_cons, List.map_nil]
  rw [ofNat_congr (show 240 + c.toNat / 262144 = (240 + c / 262144).toNat by omega), ofNat_congr (show 128 + c.toNat / 4096 % 64 = (128 + c / 4096 % 64).toNat by omega), ofNat_congr (show 128 + c.toNat / 64 % 64 = (128 + c / 64 % 64).toNat by omega), ofNat_congr (show 128 + c.toNat % 64 = (128 + c % 64).toNat by omega)]
end W
/-- two results, a text and a bool -/
theorem ret_sb {l m : List UInt8} {a b : Bool} (h : l = m) (h' : a = b) : Ending.returned (.tuple #[.string ⟨l.toArray⟩, .bool a]) = .returned (.tuple #[.string ⟨m.toArray⟩, .bool b]) := by rw [h, h']

set_option maxRecDepth 100000 in
set_option maxHeartbeats 1000000 in
theorem refChar_a (c : Int) (w : World) (b : c ≤ -1) :
    Calls Tryz.prog 94 #[.int .i64 c] w fun e w' => e = .returned (.tuple #[.string ⟨(W.charL c).toArray⟩, .bool (W.charOk c)]) ∧ Below w.heap.size w w' := by
  have hok : W.charOk c = false := by simp [W.charOk]; omega
  have hL := Lib.hid (W.charL_bad c hok)
  have hO := Lib.hid hok
  clear hok
  have t0 : decide (c < 0) = true := by simp; omega
  have t1 : decide (1114111 < c) = false := by simp; omega
  have t2 : decide (55296 ≤ c) = false := by simp; omega
  have t3 : decide (c ≤ 57343) = true := by simp; omega
  have t4 : decide (c ≤ 127) = true := by simp; omega
  have t5 : decide (c ≤ 2047) = true := by simp; omega
  have t6 : decide (c ≤ 65535) = true := by simp; omega
  go_enter Tryz.func94, Tryz.ntmps94
  go_wp2
  go_ret2
  exact ⟨ret_sb hL.out.symm hO.out.symm, Below.refl _ _⟩
set_option maxRecDepth 100000 in
set_option maxHeartbeats 1000000 in
theorem refChar_b (c : Int) (w : World) (a : 1114112 ≤ c) :
    Calls Tryz.prog 94 #[.int .i64 c] w fun e w' => e = .returned (.tuple #[.string ⟨(W.charL c).toArray⟩, .bool (W.charOk c)]) ∧ Below w.heap.size w w' := by
  have hok : W.charOk c = false := by simp [W.charOk]; omega
  have hL := Lib.hid (W.charL_bad c hok)
  have hO := Lib.hid hok
  clear hok
  have t0 : decide (c < 0) = false := by simp; omega
  have t1 : decide (1114111 < c) = true := by simp; omega
  have t2 : decide (55296 ≤ c) = true := by simp; omega
  have t3 : decide (c ≤ 57343) = false := by simp; omega
  have t4 : decide (c ≤ 127) = false := by simp; omega
  have t5 : decide (c ≤ 2047) = false := by simp; omega
  have t6 : decide (c ≤ 65535) = false := by simp; omega
  go_enter Tryz.func94, Tryz.ntmps94
  go_wp2
  go_ret2
  exact ⟨ret_sb hL.out.symm hO.out.symm, Below.refl _ _⟩
set_option maxRecDepth 100000 in
set_option maxHeartbeats 1000000 in
theorem refChar_s (c : Int) (w : World) (a : 55296 ≤ c) (b : c ≤ 57343) :
    Calls Tryz.prog 94 #[.int .i64 c] w fun e w' => e = .returned (.tuple #[.string ⟨(W.charL c).toArray⟩, .bool (W.charOk c)]) ∧ Below w.heap.size w w' := by
  have hok : W.charOk c = false := by simp [W.charOk]; omega
  have hL := Lib.hid (W.charL_bad c hok)
  have hO := Lib.hid hok
  clear hok
  have t0 : decide (c < 0) = false := by simp; omega
  have t1 : decide (1114111 < c) = false := by simp; omega
  have t2 : decide (55296 ≤ c) = true := by simp; omega
  have t3 : decide (c ≤ 57343) = true := by simp; omega
  have t4 : decide (c ≤ 127) = false := by simp; omega
  have t5 : decide (c ≤ 2047) = false := by simp; omega
  have t6 : decide (c ≤ 65535) = true := by simp; omega
  go_enter Tryz.func94, Tryz.ntmps94
  go_wp2
  go_ret2
  exact ⟨ret_sb hL.out.symm hO.out.symm, Below.refl _ _⟩
set_option maxRecDepth 100000 in
set_option maxHeartbeats 1000000 in
theorem refChar_1 (c : Int) (w : World) (a : 0 ≤ c) (b : c ≤ 127) :
    Calls Tryz.prog 94 #[.int .i64 c] w fun e w' => e = .returned (.tuple #[.string ⟨(W.charL c).toArray⟩, .bool (W.charOk c)]) ∧ Below w.heap.size w w' := by
  have hok : W.charOk c = true := by simp [W.charOk]; omega
  have hL := Lib.hid (W.charL_1 c a b)
  have hc := conv_new w [c] 1 rfl
  simp only [List.map_cons, List.map_nil] at hc
  have hO := Lib.hid hok
  clear hok
  have t0 : decide (c < 0) = false := by simp; omega
  have t1 : decide (1114111 < c) = false := by simp; omega
  have t2 : decide (55296 ≤ c) = false := by simp; omega
  have t3 : decide (c ≤ 57343) = true := by simp; omega
  have t4 : decide (c ≤ 127) = true := by simp; omega
  have t5 : decide (c ≤ 2047) = true := by simp; omega
  have t6 : decide (c ≤ 65535) = true := by simp; omega
  go_enter Tryz.func94, Tryz.ntmps94
  go_wp2
  go_ret2
  exact ⟨ret_sb hL.out.symm hO.out.symm, (Below.refl _ _).alloc (Nat.le_refl _) _⟩
set_option maxRecDepth 100000 in
set_option maxHeartbeats 1000000 in
theorem refChar_2 (c : Int) (w : World) (a : 128 ≤ c) (b : c ≤ 2047) :
    Calls Tryz.prog 94 #[.int .i64 c] w fun e w' => e = .returned (.tuple #[.string ⟨(W.charL c).toArray⟩, .bool (W.charOk c)]) ∧ Below w.heap.size w w' := by
  have hok : W.charOk c = true := by simp [W.charOk]; omega
  have hL := Lib.hid (W.charL_2 c a b)
  have hc := conv_new w [192 + c / 64, 128 + c % 64] 2 rfl
  simp only [List.map_cons, List.map_nil] at hc
  have hO := Lib.hid hok
  clear hok
  have t0 : decide (c < 0) = false := by simp; omega
  have t1 : decide (1114111 < c) = false := by simp; omega
  have t2 : decide (55296 ≤ c) = false := by simp; omega
  have t3 : decide (c ≤ 57343) = true := by simp; omega
  have t4 : decide (c ≤ 127) = false := by simp; omega
  have t5 : decide (c ≤ 2047) = true := by simp; omega
  have t6 : decide (c ≤ 65535) = true := by simp; omega
  go_enter Tryz.func94, Tryz.ntmps94
  go_wp2
  go_ret2
  exact ⟨ret_sb hL.out.symm hO.out.symm, (Below.refl _ _).alloc (Nat.le_refl _) _⟩
set_option maxRecDepth 100000 in
set_option maxHeartbeats 1000000 in
theorem refChar_3a (c : Int) (w : World) (a : 2048 ≤ c) (b : c ≤ 55295) :
    Calls Tryz.prog 94 #[.int .i64 c] w fun e w' => e = .returned (.tuple #[.string ⟨(W.charL c).toArray⟩, .bool (W.charOk c)]) ∧ Below w.heap.size w w' := by
  have hok : W.charOk c = true := by simp [W.charOk]; omega
  have hL := Lib.hid (W.charL_3 c a (by omega) hok)
  have hc := conv_new w [224 + c / 4096, 128 + c / 64 % 64, 128 + c % 64] 3 rfl
  simp only [List.map_cons, List.map_nil] at hc
  have hO := Lib.hid hok
  clear hok
  have t0 : decide (c < 0) = false := by simp; omega
  have t1 : decide (1114111 < c) = false := by simp; omega
  have t2 : decide (55296 ≤ c) = false := by simp; omega
  have t3 : decide (c ≤ 57343) = true := by simp; omega
  have t4 : decide (c ≤ 127) = false := by simp; omega
  have t5 : decide (c ≤ 2047) = false := by simp; omega
  have t6 : decide (c ≤ 65535) = true := by simp; omega
  go_enter Tryz.func94, Tryz.ntmps94
  go_wp2
  go_ret2
  exact ⟨ret_sb hL.out.symm hO.out.symm, (Below.refl _ _).alloc (Nat.le_refl _) _⟩
set_option maxRecDepth 100000 in
set_option maxHeartbeats 1000000 in
theorem refChar_3b (c : Int) (w : World) (a : 57344 ≤ c) (b : c ≤ 65535) :
    Calls Tryz.prog 94 #[.int .i64 c] w fun e w' => e = .returned (.tuple #[.string ⟨(W.charL c).toArray⟩, .bool (W.charOk c)]) ∧ Below w.heap.size w w' := by
  have hok : W.charOk c = true := by simp [W.charOk]; omega
  have hL := Lib.hid (W.charL_3 c (by omega) b hok)
  have hc := conv_new w [224 + c / 4096, 128 + c / 64 % 64, 128 + c % 64] 3 rfl
  simp only [List.map_cons, List.map_nil] at hc
  have hO := Lib.hid hok
  clear hok
  have t0 : decide (c < 0) = false := by simp; omega
  have t1 : decide (1114111 < c) = false := by simp; omega
  have t2 : decide (55296 ≤ c) = true := by simp; omega
  have t3 : decide (c ≤ 57343) = false := by simp; omega
  have t4 : decide (c ≤ 127) = false := by simp; omega
  have t5 : decide (c ≤ 2047) = false := by simp; omega
  have t6 : decide (c ≤ 65535) = true := by simp; omega
  go_enter Tryz.func94, Tryz.ntmps94
  go_wp2
  go_ret2
  exact ⟨ret_sb hL.out.symm hO.out.symm, (Below.refl _ _).alloc (Nat.le_refl _) _⟩
set_option maxRecDepth 100000 in
set_option maxHeartbeats 1000000 in
theorem refChar_4 (c : Int) (w : World) (a : 65536 ≤ c) (b : c ≤ 1114111) :
    Calls Tryz.prog 94 #[.int .i64 c] w fun e w' => e = .returned (.tuple #[.string ⟨(W.charL c).toArray⟩, .bool (W.charOk c)]) ∧ Below w.heap.size w w' := by
  have hok : W.charOk c = true := by simp [W.charOk]; omega
  have hL := Lib.hid (W.charL_4 c a b)
  have hc := conv_new w [240 + c / 262144, 128 + c / 4096 % 64, 128 + c / 64 % 64, 128 + c % 64] 4 rfl
  simp only [List.map_cons, List.map_nil] at hc
  have hO := Lib.hid hok
  clear hok
  have t0 : decide (c < 0) = false := by simp; omega
  have t1 : decide (1114111 < c) = false := by simp; omega
  have t2 : decide (55296 ≤ c) = true := by simp; omega
  have t3 : decide (c ≤ 57343) = false := by simp; omega
  have t4 : decide (c ≤ 127) = false := by simp; omega
  have t5 : decide (c ≤ 2047) = false := by simp; omega
  have t6 : decide (c ≤ 65535) = false := by simp; omega
  go_enter Tryz.func94, Tryz.ntmps94
  go_wp2
  go_ret2
  exact ⟨ret_sb hL.out.symm hO.out.symm, (Below.refl _ _).alloc (Nat.le_refl _) _⟩
theorem refChar_any (c : Int) (w : World) :
    Calls Tryz.prog 94 #[.int .i64 c] w fun e w' => e = .returned (.tuple #[.string ⟨(W.charL c).toArray⟩, .bool (W.charOk c)]) ∧ Below w.heap.size w w' := by
  by_cases h1 : c ≤ -1
  · exact refChar_a c w h1
  by_cases h2 : 1114112 ≤ c
  · exact refChar_b c w h2
  by_cases h3 : c ≤ 127
  · exact refChar_1 c w (by omega) h3
  by_cases h4 : c ≤ 2047
  · exact refChar_2 c w (by omega) h4
  by_cases h5 : c ≤ 55295
  · exact refChar_3a c w (by omega) h5
  by_cases h6 : c ≤ 57343
  · exact refChar_s c w (by omega) h6
  by_cases h7 : c ≤ 65535
  · exact refChar_3b c w (by omega) h7
  exact refChar_4 c w (by omega) (by omega)
end Go.Proofs.YtphjfighamadgaaGreatDoor
namespace Go.Proofs.YtphjfighamadgaaGreatDoor
open Go.RowKit
open Go.Lib (hid)

/-- three results: two numbers and a bool -/
def ret3 (p : Int × Int × Bool) : Ending := .returned (.tuple #[.int .i64 p.1, .int .i64 p.2.1, .bool p.2.2])
theorem ret3_eq {a b : Int} {c : Bool} {p : Int × Int × Bool} (h : p = (a, b, c)) : Ending.returned (.tuple #[.int .i64 a, .int .i64 b, .bool c]) = ret3 p := by rw [h]; rfl

namespace W
theorem getD_drop (s : ByteArray) (n k : Nat) (h : n + k < s.size) : ((s.data.toList.drop n).getD k 0).toNat = s[n + k].toNat := by
  congr 1
  rw [List.getD_eq_getElem?_getD, List.getElem?_drop]
  have h' : n + k < s.data.toList.length := by simpa using h
  rw [List.getElem?_eq_getElem h']
  rfl
theorem extract_eq (s : ByteArray) (n k : Nat) : s.extract n (n + k) = ⟨((s.data.toList.drop n).take k).toArray⟩ := by
  have := ByteArray.extract_mk s.data.toList n (n + k)
  rw [show (⟨s.data.toList.toArray⟩ : ByteArray) = s from rfl, show n + k - n = k by omega] at this
  exact this
theorem list_beq (l m : List UInt8) : (l == m) = decide (l = m) := by
  by_cases h : l = m
  · subst h; simp
  · rw [decide_eq_false h, beq_eq_false_iff_ne]; exact h
theorem refD_short (l : List UInt8) (w : Nat) (hw : refW (l.getD 0 0).toNat = w) (h : l.length < w) : refD l = (0, 0, false) := by
  unfold refD; simp only [hw]; rw [if_pos h]
theorem refD_good (l : List UInt8) (w : Nat) (hw : refW (l.getD 0 0).toNat = w) (h : ¬ l.length < w) (h1 : charOk (refC l (w - 1)) = true) (h2 : charL (refC l (w - 1)) = l.take w) : refD l = (refC l (w - 1), (w : Int), true) := by
  unfold refD; simp only [hw]; rw [if_neg h, if_pos (by simp [h1, h2])]
theorem refD_bad (l : List UInt8) (w : Nat) (hw : refW (l.getD 0 0).toNat = w) (h : ¬ l.length < w) (h1 : ¬ (charOk (refC l (w - 1)) = true ∧ charL (refC l (w - 1)) = l.take w)) : refD l = (0, 0, false) := by
  unfold refD; simp only [hw]; rw [if_neg h, if_neg (by simpa using h1)]
end W
theorem slice_at (s : ByteArray) (n k : Nat) (h : n + k ≤ s.size) (W : World) : (Instr.slice 9 (.string s) (some (.int .i64 (n : Int))) (some (.int .i64 ((n : Int) + (k : Int)))) none).run Tryz.prog W = .ok (.string (s.extract n (n + k))) W := by
  have := run_slice_string (P := Tryz.prog) W 9 s .i64 .i64 (n : Int) ((n : Int) + (k : Int)) Tryz.underlying9 (by omega) (by omega) (by omega)
  rw [show ((n : Int) + (k : Int)).toNat = n + k by omega, Int.toNat_natCast] at this
  exact this

set_option maxRecDepth 100000 in
set_option maxHeartbeats 2000000 in
theorem refAt_4 (s : ByteArray) (n : Nat) (w : World) (hs : s.size ≤ 9223372036854775803) (hn : n < s.size) (ha : 240 ≤ s[n].toNat) :
    Calls Tryz.prog 78 #[.string s, .int .i64 n] w fun e w' => e = ret3 (W.refD (s.data.toList.drop n)) ∧ Below w.heap.size w w' := by
  obtain ⟨l, hl⟩ : ∃ l, s.data.toList.drop n = l := ⟨_, rfl⟩
  rw [hl]
  have hg : ∀ k, (h : n + k < s.size) → (l.getD k 0).toNat = s[n + k].toNat := fun k h => by rw [← hl]; exact W.getD_drop s n k h
  have hlen : l.length = s.size - n := by rw [← hl]; simp
  have hb2 : s[n].toNat < 256 := s[n].toNat_lt
  have h00 : (l.getD 0 0).toNat = s[n].toNat := hg 0 (by omega)
  have hw : W.refW (l.getD 0 0).toNat = 4 := by rw [h00]; unfold W.refW; rw [if_pos (by omega)]
  have hv : W.refC l 0 = (s[n].toNat : Int) - 240 := by show W.refV (l.getD 0 0).toNat = _; rw [h00]; unfold W.refV; rw [if_pos (by omega)]
  have t0 : decide ((n : Int) < 0) = false := by simp
  have t1 : decide ((s.size : Int) ≤ (n : Int)) = false := by simp; omega
  have q0 : decide ((240 : Int) ≤ (s[n].toNat : Int)) = true := by simp; omega
  by_cases hN : n + 4 ≤ s.size
  · have t2 : decide ((s.size : Int) < (n : Int) + 4) = false := by simp; omega
    have HV := hid hv
    have HW := hid hw
    have HL := hid hlen
    have HS := hid (W.extract_eq s n 4)
    have hsl : ∀ W : World, (Instr.slice 9 (.string s) (some (.int .i64 (n : Int))) (some (.int .i64 ((n : Int) + 4))) none).run Tryz.prog W = .ok (.string (s.extract n (n + 4))) W := slice_at s n 4 hN
    have hlt : ¬ l.length < 4 := by omega
    have HX : Hid (¬ l.length < 4) := hlt
    have HT := hid hl
    clear hv hw hlen h00 hlt hl
    go_enter Tryz.func78, Tryz.ntmps78
    go_wp2_with fail
    go_loop [8, 9] (fun c k => ∃ j : Nat, j < 4 ∧ k = .int .i64 ((j : Int) + 1) ∧ c = .int .i64 (W.refC l j)) (fun _ k => 5 - (intOf k).toNat)
    case atStart => exact ⟨0, by omega, rfl, by rw [HV.out]⟩
    case round =>
      obtain ⟨j, hj, rfl, rfl⟩ := hrel
      obtain ⟨hB1, hB2⟩ := W.refC_bound l j (by omega)
      by_cases hlt : j + 1 < 4
      · have hx := hid (hg (j + 1) (by omega))
        have hj1 : (0 : Int) ≤ (n : Int) + ((j : Int) + 1) ∧ (n : Int) + ((j : Int) + 1) < (s.size : Int) := by omega
        have hy : s[n + (j + 1)].toNat < 256 := s[n + (j + 1)].toNat_lt
        go_wp2_with fail
        go_round
        case rel => exact ⟨j + 1, by omega, by go_num, by rw [W.refC, hx.out]⟩
        case measure => simp [intOf]; omega
      · obtain rfl : j = 3 := by omega
        clear hlt
        obtain ⟨ok, hok⟩ : ∃ ok, W.charOk (W.refC l 3) = ok := ⟨_, rfl⟩
        have HO := hid hok
        cases ok
        · have hR := hid (W.refD_bad l 4 HW.out HX.out (by show ¬ (W.charOk (W.refC l 3) = true ∧ _); rw [hok]; rintro ⟨h, _⟩; cases h))
          go_wp2_with (go_at_call 94; refine (refChar_any _ _).mono ?_; rintro e w' ⟨rfl, hb1⟩)
          go_ret3
          exact ⟨ret3_eq hR.out, hb1⟩
        · obtain ⟨q, hq⟩ : ∃ q, decide (W.charL (W.refC l 3) = l.take 4) = q := ⟨_, rfl⟩
          have hne : (W.charL (W.refC l 3) == (s.extract n (n + 4)).toList) = q := by rw [Lib.toList_data, HS.out, HT.out, W.list_beq]; exact hq
          have HQ := hid hq
          clear hq
          cases q
          · have hR := hid (W.refD_bad l 4 HW.out HX.out (by show ¬ (_ ∧ W.charL (W.refC l 3) = l.take 4); rintro ⟨_, h⟩; exact absurd h (of_decide_eq_false HQ.out)))
            go_wp2_with (go_at_call 94; refine (refChar_any _ _).mono ?_; rintro e w' ⟨rfl, hb1⟩)
            go_ret3
            exact ⟨ret3_eq hR.out, hb1⟩
          · have hR := hid (W.refD_good l 4 HW.out HX.out HO.out (of_decide_eq_true HQ.out))
            go_wp2_with (go_at_call 94; refine (refChar_any _ _).mono ?_; rintro e w' ⟨rfl, hb1⟩)
            go_ret3
            exact ⟨ret3_eq hR.out, hb1⟩
  · have t2 : decide ((s.size : Int) < (n : Int) + 4) = true := by simp; omega
    have hR := hid (W.refD_short l 4 hw (by omega))
    clear hl hg hlen h00 hw hv
    go_enter Tryz.func78, Tryz.ntmps78
    go_wp2_with fail
    go_ret3
    exact ⟨ret3_eq hR.out, Below.refl _ _⟩

set_option maxRecDepth 100000 in
set_option maxHeartbeats 2000000 in
theorem refAt_3 (s : ByteArray) (n : Nat) (w : World) (hs : s.size ≤ 9223372036854775803) (hn : n < s.size) (ha : 224 ≤ s[n].toNat) (hz : s[n].toNat < 240) :
    Calls Tryz.prog 78 #[.string s, .int .i64 n] w fun e w' => e = ret3 (W.refD (s.data.toList.drop n)) ∧ Below w.heap.size w w' := by
  obtain ⟨l, hl⟩ : ∃ l, s.data.toList.drop n = l := ⟨_, rfl⟩
  rw [hl]
  have hg : ∀ k, (h : n + k < s.size) → (l.getD k 0).toNat = s[n + k].toNat := fun k h => by rw [← hl]; exact W.getD_drop s n k h
  have hlen : l.length = s.size - n := by rw [← hl]; simp
  have hb2 : s[n].toNat < 256 := s[n].toNat_lt
  have h00 : (l.getD 0 0).toNat = s[n].toNat := hg 0 (by omega)
  have hw : W.refW (l.getD 0 0).toNat = 3 := by rw [h00]; unfold W.refW; rw [if_neg (by omega)]; rw [if_pos (by omega)]
  have hv : W.refC l 0 = (s[n].toNat : Int) - 224 := by show W.refV (l.getD 0 0).toNat = _; rw [h00]; unfold W.refV; rw [if_neg (by omega)]; rw [if_pos (by omega)]
  have t0 : decide ((n : Int) < 0) = false := by simp
  have t1 : decide ((s.size : Int) ≤ (n : Int)) = false := by simp; omega
  have q0 : decide ((240 : Int) ≤ (s[n].toNat : Int)) = false := by simp; omega
  have q1 : decide ((224 : Int) ≤ (s[n].toNat : Int)) = true := by simp; omega
  by_cases hN : n + 3 ≤ s.size
  · have t2 : decide ((s.size : Int) < (n : Int) + 3) = false := by simp; omega
    have HV := hid hv
    have HW := hid hw
    have HL := hid hlen
    have HS := hid (W.extract_eq s n 3)
    have hsl : ∀ W : World, (Instr.slice 9 (.string s) (some (.int .i64 (n : Int))) (some (.int .i64 ((n : Int) + 3))) none).run Tryz.prog W = .ok (.string (s.extract n (n + 3))) W := slice_at s n 3 hN
    have hlt : ¬ l.length < 3 := by omega
    have HX : Hid (¬ l.length < 3) := hlt
    have HT := hid hl
    clear hv hw hlen h00 hlt hl
    go_enter Tryz.func78, Tryz.ntmps78
    go_wp2_with fail
    go_loop [8, 9] (fun c k => ∃ j : Nat, j < 3 ∧ k = .int .i64 ((j : Int) + 1) ∧ c = .int .i64 (W.refC l j)) (fun _ k => 5 - (intOf k).toNat)
    case atStart => exact ⟨0, by omega, rfl, by rw [HV.out]⟩
    case round =>
      obtain ⟨j, hj, rfl, rfl⟩ := hrel
      obtain ⟨hB1, hB2⟩ := W.refC_bound l j (by omega)
      by_cases hlt : j + 1 < 3
      · have hx := hid (hg (j + 1) (by omega))
        have hj1 : (0 : Int) ≤ (n : Int) + ((j : Int) + 1) ∧ (n : Int) + ((j : Int) + 1) < (s.size : Int) := by omega
        have hy : s[n + (j + 1)].toNat < 256 := s[n + (j + 1)].toNat_lt
        go_wp2_with fail
        go_round
        case rel => exact ⟨j + 1, by omega, by go_num, by rw [W.refC, hx.out]⟩
        case measure => simp [intOf]; omega
      · obtain rfl : j = 2 := by omega
        clear hlt
        obtain ⟨ok, hok⟩ : ∃ ok, W.charOk (W.refC l 2) = ok := ⟨_, rfl⟩
        have HO := hid hok
        cases ok
        · have hR := hid (W.refD_bad l 3 HW.out HX.out (by show ¬ (W.charOk (W.refC l 2) = true ∧ _); rw [hok]; rintro ⟨h, _⟩; cases h))
          go_wp2_with (go_at_call 94; refine (refChar_any _ _).mono ?_; rintro e w' ⟨rfl, hb1⟩)
          go_ret3
          exact ⟨ret3_eq hR.out, hb1⟩
        · obtain ⟨q, hq⟩ : ∃ q, decide (W.charL (W.refC l 2) = l.take 3) = q := ⟨_, rfl⟩
          have hne : (W.charL (W.refC l 2) == (s.extract n (n + 3)).toList) = q := by rw [Lib.toList_data, HS.out, HT.out, W.list_beq]; exact hq
          have HQ := hid hq
          clear hq
          cases q
          · have hR := hid (W.refD_bad l 3 HW.out HX.out (by show ¬ (_ ∧ W.charL (W.refC l 2) = l.take 3); rintro ⟨_, h⟩; exact absurd h (of_decide_eq_false HQ.out)))
            go_wp2_with (go_at_call 94; refine (refChar_any _ _).mono ?_; rintro e w' ⟨rfl, hb1⟩)
            go_ret3
            exact ⟨ret3_eq hR.out, hb1⟩
          · have hR := hid (W.refD_good l 3 HW.out HX.out HO.out (of_decide_eq_true HQ.out))
            go_wp2_with (go_at_call 94; refine (refChar_any _ _).mono ?_; rintro e w' ⟨rfl, hb1⟩)
            go_ret3
            exact ⟨ret3_eq hR.out, hb1⟩
  · have t2 : decide ((s.size : Int) < (n : Int) + 3) = true := by simp; omega
    have hR := hid (W.refD_short l 3 hw (by omega))
    clear hl hg hlen h00 hw hv
    go_enter Tryz.func78, Tryz.ntmps78
    go_wp2_with fail
    go_ret3
    exact ⟨ret3_eq hR.out, Below.refl _ _⟩

set_option maxRecDepth 100000 in
set_option maxHeartbeats 2000000 in
theorem refAt_2 (s : ByteArray) (n : Nat) (w : World) (hs : s.size ≤ 9223372036854775803) (hn : n < s.size) (ha : 192 ≤ s[n].toNat) (hz : s[n].toNat < 224) :
    Calls Tryz.prog 78 #[.string s, .int .i64 n] w fun e w' => e = ret3 (W.refD (s.data.toList.drop n)) ∧ Below w.heap.size w w' := by
  obtain ⟨l, hl⟩ : ∃ l, s.data.toList.drop n = l := ⟨_, rfl⟩
  rw [hl]
  have hg : ∀ k, (h : n + k < s.size) → (l.getD k 0).toNat = s[n + k].toNat := fun k h => by rw [← hl]; exact W.getD_drop s n k h
  have hlen : l.length = s.size - n := by rw [← hl]; simp
  have hb2 : s[n].toNat < 256 := s[n].toNat_lt
  have h00 : (l.getD 0 0).toNat = s[n].toNat := hg 0 (by omega)
  have hw : W.refW (l.getD 0 0).toNat = 2 := by rw [h00]; unfold W.refW; rw [if_neg (by omega)]; rw [if_neg (by omega)]; rw [if_pos (by omega)]
  have hv : W.refC l 0 = (s[n].toNat : Int) - 192 := by show W.refV (l.getD 0 0).toNat = _; rw [h00]; unfold W.refV; rw [if_neg (by omega)]; rw [if_neg (by omega)]; rw [if_pos (by omega)]
  have t0 : decide ((n : Int) < 0) = false := by simp
  have t1 : decide ((s.size : Int) ≤ (n : Int)) = false := by simp; omega
  have q0 : decide ((240 : Int) ≤ (s[n].toNat : Int)) = false := by simp; omega
  have q1 : decide ((224 : Int) ≤ (s[n].toNat : Int)) = false := by simp; omega
  have q2 : decide ((192 : Int) ≤ (s[n].toNat : Int)) = true := by simp; omega
  by_cases hN : n + 2 ≤ s.size
  · have t2 : decide ((s.size : Int) < (n : Int) + 2) = false := by simp; omega
    have HV := hid hv
    have HW := hid hw
    have HL := hid hlen
    have HS := hid (W.extract_eq s n 2)
    have hsl : ∀ W : World, (Instr.slice 9 (.string s) (some (.int .i64 (n : Int))) (some (.int .i64 ((n : Int) + 2))) none).run Tryz.prog W = .ok (.string (s.extract n (n + 2))) W := slice_at s n 2 hN
    have hlt : ¬ l.length < 2 := by omega
    have HX : Hid (¬ l.length < 2) := hlt
    have HT := hid hl
    clear hv hw hlen h00 hlt hl
    go_enter Tryz.func78, Tryz.ntmps78
    go_wp2_with fail
    go_loop [8, 9] (fun c k => ∃ j : Nat, j < 2 ∧ k = .int .i64 ((j : Int) + 1) ∧ c = .int .i64 (W.refC l j)) (fun _ k => 5 - (intOf k).toNat)
    case atStart => exact ⟨0, by omega, rfl, by rw [HV.out]⟩
    case round =>
      obtain ⟨j, hj, rfl, rfl⟩ := hrel
      obtain ⟨hB1, hB2⟩ := W.refC_bound l j (by omega)
      by_cases hlt : j + 1 < 2
      · have hx := hid (hg (j + 1) (by omega))
        have hj1 : (0 : Int) ≤ (n : Int) + ((j : Int) + 1) ∧ (n : Int) + ((j : Int) + 1) < (s.size : Int) := by omega
        have hy : s[n + (j + 1)].toNat < 256 := s[n + (j + 1)].toNat_lt
        go_wp2_with fail
        go_round
        case rel => exact ⟨j + 1, by omega, by go_num, by rw [W.refC, hx.out]⟩
        case measure => simp [intOf]; omega
      · obtain rfl : j = 1 := by omega
        clear hlt
        obtain ⟨ok, hok⟩ : ∃ ok, W.charOk (W.refC l 1) = ok := ⟨_, rfl⟩
        have HO := hid hok
        cases ok
        · have hR := hid (W.refD_bad l 2 HW.out HX.out (by show ¬ (W.charOk (W.refC l 1) = true ∧ _); rw [hok]; rintro ⟨h, _⟩; cases h))
          go_wp2_with (go_at_call 94; refine (refChar_any _ _).mono ?_; rintro e w' ⟨rfl, hb1⟩)
          go_ret3
          exact ⟨ret3_eq hR.out, hb1⟩
        · obtain ⟨q, hq⟩ : ∃ q, decide (W.charL (W.refC l 1) = l.take 2) = q := ⟨_, rfl⟩
          have hne : (W.charL (W.refC l 1) == (s.extract n (n + 2)).toList) = q := by rw [Lib.toList_data, HS.out, HT.out, W.list_beq]; exact hq
          have HQ := hid hq
          clear hq
          cases q
          · have hR := hid (W.refD_bad l 2 HW.out HX.out (by show ¬ (_ ∧ W.charL (W.refC l 1) = l.take 2); rintro ⟨_, h⟩; exact absurd h (of_decide_eq_false HQ.out)))
            go_wp2_with (go_at_call 94; refine (refChar_any _ _).mono ?_; rintro e w' ⟨rfl, hb1⟩)
            go_ret3
            exact ⟨ret3_eq hR.out, hb1⟩
          · have hR := hid (W.refD_good l 2 HW.out HX.out HO.out (of_decide_eq_true HQ.out))
            go_wp2_with (go_at_call 94; refine (refChar_any _ _).mono ?_; rintro e w' ⟨rfl, hb1⟩)
            go_ret3
            exact ⟨ret3_eq hR.out, hb1⟩
  · have t2 : decide ((s.size : Int) < (n : Int) + 2) = true := by simp; omega
    have hR := hid (W.refD_short l 2 hw (by omega))
    clear hl hg hlen h00 hw hv
    go_enter Tryz.func78, Tryz.ntmps78
    go_wp2_with fail
    go_ret3
    exact ⟨ret3_eq hR.out, Below.refl _ _⟩

set_option maxRecDepth 100000 in
set_option maxHeartbeats 2000000 in
theorem refAt_1 (s : ByteArray) (n : Nat) (w : World) (hs : s.size ≤ 9223372036854775803) (hn : n < s.size) (hz : s[n].toNat < 192) :
    Calls Tryz.prog 78 #[.string s, .int .i64 n] w fun e w' => e = ret3 (W.refD (s.data.toList.drop n)) ∧ Below w.heap.size w w' := by
  obtain ⟨l, hl⟩ : ∃ l, s.data.toList.drop n = l := ⟨_, rfl⟩
  rw [hl]
  have hg : ∀ k, (h : n + k < s.size) → (l.getD k 0).toNat = s[n + k].toNat := fun k h => by rw [← hl]; exact W.getD_drop s n k h
  have hlen : l.length = s.size - n := by rw [← hl]; simp
  have hb2 : s[n].toNat < 256 := s[n].toNat_lt
  have h00 : (l.getD 0 0).toNat = s[n].toNat := hg 0 (by omega)
  have hw : W.refW (l.getD 0 0).toNat = 1 := by rw [h00]; unfold W.refW; rw [if_neg (by omega)]; rw [if_neg (by omega)]; rw [if_neg (by omega)]
  have hv : W.refC l 0 = (s[n].toNat : Int) := by show W.refV (l.getD 0 0).toNat = _; rw [h00]; unfold W.refV; rw [if_neg (by omega)]; rw [if_neg (by omega)]; rw [if_neg (by omega)]
  have t0 : decide ((n : Int) < 0) = false := by simp
  have t1 : decide ((s.size : Int) ≤ (n : Int)) = false := by simp; omega
  have q0 : decide ((240 : Int) ≤ (s[n].toNat : Int)) = false := by simp; omega
  have q1 : decide ((224 : Int) ≤ (s[n].toNat : Int)) = false := by simp; omega
  have q2 : decide ((192 : Int) ≤ (s[n].toNat : Int)) = false := by simp; omega
  by_cases hN : n + 1 ≤ s.size
  · have t2 : decide ((s.size : Int) < (n : Int) + 1) = false := by simp; omega
    have HV := hid hv
    have HW := hid hw
    have HL := hid hlen
    have HS := hid (W.extract_eq s n 1)
    have hsl : ∀ W : World, (Instr.slice 9 (.string s) (some (.int .i64 (n : Int))) (some (.int .i64 ((n : Int) + 1))) none).run Tryz.prog W = .ok (.string (s.extract n (n + 1))) W := slice_at s n 1 hN
    have hlt : ¬ l.length < 1 := by omega
    have HX : Hid (¬ l.length < 1) := hlt
    have HT := hid hl
    clear hv hw hlen h00 hlt hl
    go_enter Tryz.func78, Tryz.ntmps78
    go_wp2_with fail
    go_loop [8, 9] (fun c k => ∃ j : Nat, j < 1 ∧ k = .int .i64 ((j : Int) + 1) ∧ c = .int .i64 (W.refC l j)) (fun _ k => 5 - (intOf k).toNat)
    case atStart => exact ⟨0, by omega, rfl, by rw [HV.out]⟩
    case round =>
      obtain ⟨j, hj, rfl, rfl⟩ := hrel
      obtain ⟨hB1, hB2⟩ := W.refC_bound l j (by omega)
      · obtain rfl : j = 0 := by omega
        obtain ⟨ok, hok⟩ : ∃ ok, W.charOk (W.refC l 0) = ok := ⟨_, rfl⟩
        have HO := hid hok
        cases ok
        · have hR := hid (W.refD_bad l 1 HW.out HX.out (by show ¬ (W.charOk (W.refC l 0) = true ∧ _); rw [hok]; rintro ⟨h, _⟩; cases h))
          go_wp2_with (go_at_call 94; refine (refChar_any _ _).mono ?_; rintro e w' ⟨rfl, hb1⟩)
          go_ret3
          exact ⟨ret3_eq hR.out, hb1⟩
        · obtain ⟨q, hq⟩ : ∃ q, decide (W.charL (W.refC l 0) = l.take 1) = q := ⟨_, rfl⟩
          have hne : (W.charL (W.refC l 0) == (s.extract n (n + 1)).toList) = q := by rw [Lib.toList_data, HS.out, HT.out, W.list_beq]; exact hq
          have HQ := hid hq
          clear hq
          cases q
          · have hR := hid (W.refD_bad l 1 HW.out HX.out (by show ¬ (_ ∧ W.charL (W.refC l 0) = l.take 1); rintro ⟨_, h⟩; exact absurd h (of_decide_eq_false HQ.out)))
            go_wp2_with (go_at_call 94; refine (refChar_any _ _).mono ?_; rintro e w' ⟨rfl, hb1⟩)
            go_ret3
            exact ⟨ret3_eq hR.out, hb1⟩
          · have hR := hid (W.refD_good l 1 HW.out HX.out HO.out (of_decide_eq_true HQ.out))
            go_wp2_with (go_at_call 94; refine (refChar_any _ _).mono ?_; rintro e w' ⟨rfl, hb1⟩)
            go_ret3
            exact ⟨ret3_eq hR.out, hb1⟩
  · exact absurd (show n + 1 ≤ s.size by omega) hN

end Go.Proofs.YtphjfighamadgaaGreatDoor
namespace Go.Proofs.YtphjfighamadgaaGreatDoor
open Go.RowKit
open Go.Lib (hid decodeL validD)

namespace W
theorem atD_in (l : List UInt8) (n : Nat) (h : n < l.length) : atD l n = headD (l.drop n) := by
  unfold atD; rw [if_pos (by omega), Int.toNat_natCast]
theorem atD_out (l : List UInt8) (i : Int) (h : i < 0 ∨ (l.length : Int) ≤ i) : atD l i = (0, 0, false) := by
  unfold atD; rw [if_neg (by omega)]
theorem refW_le (b : Nat) : refW b ≤ 4 := by
  unfold refW
  by_cases a4 : 240 ≤ b
  · rw [if_pos a4]; omega
  · rw [if_neg a4]
    by_cases a3 : 224 ≤ b
    · rw [if_pos a3]; omega
    · rw [if_neg a3]
      by_cases a2 : 192 ≤ b
      · rw [if_pos a2]; omega
      · rw [if_neg a2]; omega
/-- one step of the decoder -/
theorem head_cases (l : List UInt8) (hl : 0 < l.length) : (headD l = (0, 0, false) ∧ validD l = false) ∨ ∃ c k : Nat, headD l = ((c : Int), (k : Int), true) ∧ 1 ≤ k ∧ k ≤ 4 ∧ k ≤ l.length ∧ validD l = validD (l.drop k) ∧ c ≤ 1114111 := by
  have hne : l ≠ [] := by intro e; subst e; simp at hl
  have hs := Lib.validD_step l hne
  by_cases h : (decodeL l).1 = 65533 ∧ (decodeL l).2 = 1
  · left
    refine ⟨by unfold headD; rw [if_pos h], by rw [hs, if_pos h]⟩
  · right
    have hd : headD l = (((decodeL l).1 : Int), ((decodeL l).2 : Int), true) := by unfold headD; rw [if_neg h]
    have hw : (decodeL l).2 ≤ l.length ∧ (decodeL l).2 ≤ 4 := by
      have hr := refD_head l hl
      rw [hd] at hr
      unfold refD at hr
      have h4 := refW_le (l.getD 0 0).toNat
      generalize refW (l.getD 0 0).toNat = w at hr h4
      simp only at hr
      split at hr
      · simp at hr
      · split at hr
        · simp only [Prod.mk.injEq] at hr; omega
        · simp at hr
    exact ⟨_, _, hd, Lib.decodeL_width l, hw.2, hw.1, by rw [hs, if_neg h], Lib.decodeL_rune l⟩
end W

theorem refAt_any (s : ByteArray) (i : Int) (w : World) (hs : s.size ≤ 9223372036854775803) :
    Calls Tryz.prog 78 #[.string s, .int .i64 i] w fun e w' => e = ret3 (W.atD s.data.toList i) ∧ Below w.heap.size w w' := by
  by_cases h : 0 ≤ i ∧ i < s.size
  · obtain ⟨n, rfl⟩ := Int.eq_ofNat_of_zero_le h.1
    have hn : n < s.size := by omega
    have e : W.atD s.data.toList (n : Int) = W.refD (s.data.toList.drop n) := by
      rw [W.atD_in _ _ (by simpa using hn), W.refD_head _ (by simp; omega)]
    rw [e]
    by_cases h4 : 240 ≤ s[n].toNat
    · exact refAt_4 s n w hs hn h4
    by_cases h3 : 224 ≤ s[n].toNat
    · exact refAt_3 s n w hs hn h3 (by omega)
    by_cases h2 : 192 ≤ s[n].toNat
    · exact refAt_2 s n w hs hn h2 (by omega)
    exact refAt_1 s n w hs hn (by omega)
  · have hR := hid (W.atD_out s.data.toList i (by simp; omega))
    by_cases h0 : i < 0
    · have t0 : decide (i < 0) = true := by simpa using h0
      go_enter Tryz.func78, Tryz.ntmps78
      go_wp2_with fail
      go_ret3
      exact ⟨ret3_eq hR.out, Below.refl _ _⟩
    · have t0 : decide (i < 0) = false := by simpa using h0
      have t1 : decide ((s.size : Int) ≤ i) = true := by simp; omega
      go_enter Tryz.func78, Tryz.ntmps78
      go_wp2_with fail
      go_ret3
      exact ⟨ret3_eq hR.out, Below.refl _ _⟩
end Go.Proofs.YtphjfighamadgaaGreatDoor
namespace Go.Proofs.YtphjfighamadgaaGreatDoor
namespace W
open Go.Lib (itoa decodeL validD)

/-- numbers come back -/
theorem parse_itoa (n : Int) (h : Fits n) : parseW (itoa n) = (n, true) := by rw [← refP_eq]; exact ref_itoa n h
theorem parse_true (l : List UInt8) (c : Int) (h : parseW l = (c, true)) : itoa c = l ∧ Fits c := by
  unfold parseW at h
  cases hp : libP l with
  | none => rw [hp] at h; cases h
  | some n =>
    rw [hp] at h
    simp only [holdTo] at h
    by_cases e : itoa n = l
    · rw [if_pos e] at h
      cases h
      exact ⟨e, lib_fits l _ hp⟩
    · rw [if_neg e] at h; cases h
theorem unq_true (l t : List UInt8) (h : unqL l = (t, true)) : quoteL t = l := by
  unfold unqL at h
  split at h
  · rename_i hx
    cases h
    exact hx.choose_spec
  · cases h

/-- plain bytes -/
def plainB (c : UInt8) : Prop := 32 ≤ c.toNat ∧ c.toNat ≤ 126
theorem hexD_plain (k : Nat) (h : k < 16) : plainB (hexD k) := by
  have : ∀ y : Fin 16, 32 ≤ (hexD y.val).toNat ∧ (hexD y.val).toNat ≤ 126 := by decide +kernel
  exact this ⟨k, h⟩
theorem byteQ_plain (c x : UInt8) (h : x ∈ byteQ c) : plainB x := by
  have hc := c.toNat_lt
  unfold byteQ at h
  split at h
  · rename_i h1
    simp only [List.mem_cons, List.not_mem_nil, or_false] at h
    rcases h with rfl | rfl
    · exact ⟨by decide, by decide⟩
    · unfold plainB; omega
  · split at h
    · simp only [List.mem_cons, List.not_mem_nil, or_false] at h
      rcases h with rfl | rfl
      · exact ⟨by decide, by decide⟩
      · exact ⟨by decide, by decide⟩
    · split at h
      · simp only [List.mem_cons, List.not_mem_nil, or_false] at h
        rcases h with rfl | rfl | rfl | rfl
        · exact ⟨by decide, by decide⟩
        · exact ⟨by decide, by decide⟩
        · exact hexD_plain _ (by omega)
        · exact hexD_plain _ (by omega)
      · simp only [List.mem_cons, List.not_mem_nil, or_false] at h
        subst h
        unfold plainB; omega
theorem quoteIn_plain : ∀ (l : List UInt8) (x : UInt8), x ∈ quoteIn l → plainB x
  | [], x, h => by cases h
  | c :: l, x, h => by
    simp only [quoteIn, List.mem_append] at h
    rcases h with h | h
    · exact byteQ_plain c x h
    · exact quoteIn_plain l x h
theorem quoteL_plain (l : List UInt8) (x : UInt8) (h : x ∈ quoteL l) : plainB x := by
  unfold quoteL at h
  simp only [List.mem_cons, List.mem_append, List.not_mem_nil, or_false] at h
  rcases h with rfl | h | rfl
  · exact ⟨by decide, by decide⟩
  · exact quoteIn_plain l x h
  · exact ⟨by decide, by decide⟩
theorem quoteL_length (l : List UInt8) : (quoteL l).length = (quoteIn l).length + 2 := by simp [quoteL]
/-- no beginning of a quoted text is one -/
theorem quote_cut (l : List UInt8) (k : Nat) (h : k < (quoteL l).length) : unqL ((quoteL l).take k) = ([], false) := by
  refine unqL_no (fun t ht => ?_)
  have e : quoteL l = quoteL t ++ (quoteL l).drop k := by rw [ht]; exact (List.take_append_drop _ _).symm
  have e2 : quoteIn l ++ [34] = quoteIn t ++ ([34] ++ (quoteL l).drop k) := by
    have := e
    conv at this => lhs; unfold quoteL
    conv at this => rhs; lhs; unfold quoteL
    rw [List.cons_append, List.append_assoc] at this
    exact (List.cons.inj this).2
  obtain ⟨t', _, e3⟩ := in_prefix t l _ e2
  cases t' with
  | nil =>
    have := congrArg List.length e3
    simp only [quoteIn, List.nil_append, List.length_append, List.length_cons, List.length_nil, List.length_drop] at this
    omega
  | cons c t' =>
    simp only [quoteIn, List.append_assoc, List.cons_append, List.nil_append] at e3
    rcases byteQ_cases c with ⟨hc, e⟩ | ⟨hc, e⟩ | ⟨hc, e⟩ | ⟨hc, _, e⟩
    all_goals
      rw [e] at e3
      simp only [List.cons_append, List.nil_append, List.cons.injEq] at e3
    · exact absurd e3.1 (by decide)
    · exact absurd e3.1 (by decide)
    · exact absurd e3.1 (by decide)
    · rw [e3.1] at hc; exact absurd rfl hc

/-- a character that begins at the head: it is written so -/
theorem head_good (l : List UInt8) (hl : 0 < l.length) (c k : Int) (h : headD l = (c, k, true)) : charOk c = true ∧ charL c = l.take k.toNat ∧ k = refW (l.getD 0 0).toNat ∧ 1 ≤ k ∧ k ≤ 4 ∧ k ≤ l.length := by
  have hk : 1 ≤ k ∧ k ≤ 4 ∧ k ≤ l.length := by
    rcases head_cases l hl with ⟨h1, _⟩ | ⟨c', k', h1, a, b, d, _⟩
    · rw [h1] at h; cases h
    · rw [h1] at h; cases h; omega
  have hr := refD_head l hl
  rw [h] at hr
  unfold refD at hr
  simp only at hr
  split at hr
  · cases hr
  · split at hr
    · rename_i h1 h2
      simp only [Bool.and_eq_true, decide_eq_true_eq] at h2
      simp only [Prod.mk.injEq, and_true] at hr
      obtain ⟨rfl, rfl⟩ := hr
      exact ⟨h2.1, by rw [Int.toNat_natCast]; exact h2.2, rfl, hk⟩
    · cases hr
theorem getD_append (a r : List UInt8) (i : Nat) (h : i < a.length) : (a ++ r).getD i 0 = a.getD i 0 := by
  rw [List.getD_eq_getElem?_getD, List.getD_eq_getElem?_getD, List.getElem?_append_left h]
theorem refC_append (a r : List UInt8) : ∀ k, k < a.length → refC (a ++ r) k = refC a k
  | 0, h => by unfold refC; rw [getD_append a r 0 h]
  | k + 1, h => by unfold refC; rw [getD_append a r (k + 1) h, refC_append a r k (by omega)]
theorem refW_pos (b : Nat) : 1 ≤ refW b := by
  unfold refW
  by_cases a4 : 240 ≤ b
  · rw [if_pos a4]; omega
  · rw [if_neg a4]
    by_cases a3 : 224 ≤ b
    · rw [if_pos a3]; omega
    · rw [if_neg a3]
      by_cases a2 : 192 ≤ b
      · rw [if_pos a2]; omega
      · rw [if_neg a2]; omega
theorem refD_append (a r : List UInt8) (ha : 0 < a.length) (h : refW (a.getD 0 0).toNat ≤ a.length) : refD (a ++ r) = refD a := by
  have hw := refW_pos (a.getD 0 0).toNat
  unfold refD
  rw [getD_append a r 0 ha]
  simp only
  rw [if_neg (show ¬ (a ++ r).length < refW (a.getD 0 0).toNat by rw [List.length_append]; omega), if_neg (show ¬ a.length < refW (a.getD 0 0).toNat by omega), refC_append a r _ (by omega), List.take_append_of_le_length h]
theorem head_append (a r : List UInt8) (ha : 0 < a.length) (h : refW (a.getD 0 0).toNat ≤ a.length) : headD (a ++ r) = headD a := by
  rw [← refD_head (a ++ r) (by rw [List.length_append]; omega), ← refD_head a ha, refD_append a r ha h]

/-- texts that are UTF-8, and what stands behind them -/
theorem valid_append : ∀ (m : Nat) (a r : List UInt8), a.length ≤ m → validD a = true → validD (a ++ r) = validD r
  | m, [], r, _, _ => rfl
  | 0, c :: a, r, h, _ => by simp at h
  | m + 1, c :: a, r, h, hv => by
    have ha : 0 < (c :: a).length := by simp
    rcases head_cases (c :: a) ha with ⟨_, h2⟩ | ⟨x, k, h1, k1, k4, kl, h5, _⟩
    · rw [h2] at hv; cases hv
    · have hg := head_good _ ha _ _ h1
      have hw : refW ((c :: a).getD 0 0).toNat ≤ (c :: a).length := by have := hg.2.2.1; omega
      have e := head_append (c :: a) r ha hw
      rw [h1] at e
      rcases head_cases (c :: a ++ r) (by simp) with ⟨h6, _⟩ | ⟨x', k', h6, _, _, _, h7, _⟩
      · rw [h6] at e; cases e
      · rw [h6] at e
        simp only [Prod.mk.injEq, and_true] at e
        have hk : k' = k := by omega
        rw [h7, hk, List.drop_append_of_le_length kl]
        refine valid_append m _ r ?_ (by rw [← h5]; exact hv)
        rw [List.length_drop]
        simp only [List.length_cons] at h ⊢
        omega
theorem valid_nil : validD [] = true := rfl
/-- one character -/
theorem valid_take (l : List UInt8) (hl : 0 < l.length) (c k : Int) (h : headD l = (c, k, true)) : validD (l.take k.toNat) = true := by
  obtain ⟨_, _, hw, k1, k4, kl⟩ := head_good l hl c k h
  have hlen : (l.take k.toNat).length = k.toNat := by rw [List.length_take]; omega
  have h0 : (l.take k.toNat).getD 0 0 = l.getD 0 0 := by
    rw [List.getD_eq_getElem?_getD, List.getD_eq_getElem?_getD, List.getElem?_take_of_lt (by omega)]
  have e : headD (l.take k.toNat) = (c, k, true) := by
    rw [← head_append (l.take k.toNat) (l.drop k.toNat) (by omega) (by rw [h0]; omega), List.take_append_drop, h]
  rcases head_cases (l.take k.toNat) (by omega) with ⟨h6, _⟩ | ⟨x', k', h6, _, _, _, h7, _⟩
  · rw [h6] at e; cases e
  · rw [h6] at e
    simp only [Prod.mk.injEq, and_true] at e
    rw [h7, List.drop_of_length_le (by omega)]; rfl
/-- behind its first byte a character's bytes begin none -/
theorem charB_tail (n k : Nat) (h1 : 1 ≤ k) (h2 : k < (charB n).length) : 128 ≤ (charB n).getD k 0 ∧ (charB n).getD k 0 < 192 := by
  unfold charB at h2 ⊢
  split at h2 <;> rename_i c1
  · simp at h2; omega
  · rw [if_neg c1]
    split at h2 <;> rename_i c2
    · rw [if_pos c2]
      simp at h2
      obtain rfl : k = 1 := by omega
      simp; omega
    · rw [if_neg c2]
      split at h2 <;> rename_i c3
      · rw [if_pos c3]
        simp at h2
        rcases (by omega : k = 1 ∨ k = 2) with rfl | rfl <;> simp <;> omega
      · rw [if_neg c3]
        simp at h2
        rcases (by omega : k = 1 ∨ k = 2 ∨ k = 3) with rfl | rfl | rfl <;> simp <;> omega
theorem head_mid (l : List UInt8) (b : UInt8) (r : List UInt8) (hl : l = b :: r) (h : 128 ≤ b.toNat ∧ b.toNat < 192) : headD l = (0, 0, false) := by
  subst hl
  rw [← refD_head _ (by simp)]
  unfold refD
  have hw : refW ((b :: r).getD 0 0).toNat = 1 := by
    show refW b.toNat = 1
    unfold refW; rw [if_neg (by omega), if_neg (by omega), if_neg (by omega)]
  rw [hw]
  simp only
  rw [if_neg (by simp)]
  rw [if_neg]
  simp only [Bool.and_eq_true, decide_eq_true_eq, not_and]
  intro hok e
  have hc : refC (b :: r) (1 - 1) = (b.toNat : Int) := by
    show refV b.toNat = _
    unfold refV; rw [if_neg (by omega), if_neg (by omega), if_neg (by omega)]
  rw [hc] at e hok
  have := congrArg List.length e
  unfold charL at this
  rw [if_pos hok] at this
  unfold charN charB at this
  rw [Int.toNat_natCast, if_neg (by omega), if_pos (by omega)] at this
  simp at this

/-- CUT: a text that is UTF-8 is cut in two that are just where a character begins, or at its end -/
theorem cut_valid : ∀ (m : Nat) (l : List UInt8) (k : Nat), l.length ≤ m → k ≤ l.length → validD l = true → (validD (l.take k) && validD (l.drop k)) = ((atD l k).2.2 || decide (k = l.length))
  | 0, l, k, hm, hk, _ => by
    obtain rfl : l = [] := List.eq_nil_of_length_eq_zero (by omega)
    simp only [List.length_nil] at hk
    obtain rfl : k = 0 := by omega
    simp [valid_nil]
  | m + 1, l, k, hm, hk, hv => by
    by_cases hl : 0 < l.length
    · rcases head_cases l hl with ⟨_, h2⟩ | ⟨x, n, h1, n1, n4, nl, h5, _⟩
      · rw [h2] at hv; cases hv
      · have hg := head_good l hl _ _ h1
        by_cases hk0 : k = 0
        · subst hk0
          have : atD l (0 : Nat) = headD (l.drop 0) := atD_in l 0 hl
          rw [this, List.drop_zero, h1, hv, List.take_zero, valid_nil]; rfl
        · by_cases hkn : n ≤ k
          · have ih := cut_valid m (l.drop n) (k - n) (by rw [List.length_drop]; omega) (by rw [List.length_drop]; omega) (by rw [← h5]; exact hv)
            have e1 : l.take k = l.take n ++ (l.drop n).take (k - n) := by
              rw [← List.take_add, show n + (k - n) = k by omega]
            have e2 : (l.drop n).drop (k - n) = l.drop k := by rw [List.drop_drop, show n + (k - n) = k by omega]
            have hvt := valid_take l hl _ _ h1
            rw [Int.toNat_natCast] at hvt
            rw [e1, valid_append n _ _ (by rw [List.length_take]; omega) hvt, ← e2, ih]
            congr 1
            · by_cases hkl : k < l.length
              · rw [atD_in l k hkl, atD_in (l.drop n) (k - n) (by rw [List.length_drop]; omega), e2]
              · rw [atD_out l k (by omega), atD_out (l.drop n) _ (by rw [List.length_drop]; omega)]
            · rw [List.length_drop, decide_eq_decide]; omega
          · -- in the midst of a character
            have hkl : k < l.length := by omega
            have hc := hg.2.1
            rw [Int.toNat_natCast] at hc
            have hxm : (x : Int) ≤ 1114111 ∧ 0 ≤ (x : Int) := by
              have := hg.1; simp only [charOk, Bool.or_eq_true, decide_eq_true_eq] at this; omega
            have hb := (charL_eq x (l.take n) hg.1).1 hc
            rw [Int.toNat_natCast] at hb
            have hlen : (charB x).length = n := by rw [hb, List.length_map, List.length_take]; omega
            have ht := charB_tail x k (by omega) (by omega)
            rw [hb] at ht
            have hget : ((l.take n).map UInt8.toNat).getD k 0 = l[k].toNat := by
              rw [List.getD_eq_getElem?_getD, List.getElem?_map, List.getElem?_take_of_lt (by omega), List.getElem?_eq_getElem hkl]; rfl
            rw [hget] at ht
            have hd : l.drop k = l[k] :: l.drop (k + 1) := List.drop_eq_getElem_cons hkl
            have hm := head_mid _ _ _ hd ht
            have hvd : validD (l.drop k) = false := by
              rcases head_cases (l.drop k) (by rw [List.length_drop]; omega) with ⟨_, h⟩ | ⟨_, _, h, _⟩
              · exact h
              · rw [hm] at h; cases h
            rw [hvd, atD_in l k hkl, hm, Bool.and_false, decide_eq_false (by omega)]; rfl
    · obtain rfl : l = [] := List.eq_nil_of_length_eq_zero (by omega)
      simp only [List.length_nil] at hk
      obtain rfl : k = 0 := by omega
      simp [valid_nil]

/-- names -/
theorem stands_up (i n : Nat) (h : stands 0 n = true) : stands i n = true := by
  simp only [stands, ne_eq, not_true_eq_false, decide_false, Bool.and_false, Bool.or_false] at h
  simp only [stands, h, Bool.true_or]
theorem all_up : ∀ (l : List UInt8) (i : Nat), standsAll 0 l = true → standsAll (i + 1) l = true
  | [], _, _ => rfl
  | c :: l, i, h => by
    simp only [standsAll, Bool.and_eq_true] at h ⊢
    exact ⟨stands_up _ _ h.1, by rw [okAll_of l _ (by omega)]; rw [okAll_of l _ (by omega)] at h; exact h.2⟩
theorem all_pos (l : List UInt8) (i j : Nat) (hi : 0 < i) (hj : 0 < j) : standsAll i l = standsAll j l := by rw [okAll_of l i hi, okAll_of l j hj]
theorem name_iff (l : List UInt8) : nameB l = true ↔ (1 ≤ l.length ∧ l.length ≤ 32) ∧ standsAll 0 l = true := by
  simp only [nameB, Bool.and_eq_true, decide_eq_true_eq]
theorem name_a (r : List UInt8) : nameB (97 :: r) = (decide (r.length ≤ 31) && standsAll 1 r) := by
  unfold nameB
  have : stands 0 (97 : UInt8).toNat = true := by decide
  simp only [standsAll, this, Bool.true_and, List.length_cons, Nat.zero_add]
  congr 1
  rw [decide_eq_decide]; omega
theorem name_one (c : UInt8) : nameB [c] = stands 0 c.toNat := by simp [nameB, standsAll]
theorem name_two (c : UInt8) : nameB [97, c] = stands 1 c.toNat := by rw [name_a]; simp [standsAll]
theorem name_none (c : UInt8) (r : List UInt8) (h : nameB (c :: r) = false) (hr : (c :: r).length ≤ 32) : nameB (97 :: r) = false ∨ nameB [c] = false := by
  rw [name_a, name_one]
  simp only [List.length_cons] at hr
  rw [decide_eq_true (by omega), Bool.true_and]
  unfold nameB at h
  simp only [List.length_cons] at h
  rw [decide_eq_true (by omega), Bool.true_and] at h
  simp only [standsAll, Bool.and_eq_false_iff] at h
  rcases h with h | h
  · exact Or.inr h
  · exact Or.inl h
theorem name_twice (l : List UInt8) (h : nameB l = true) : nameB (l ++ l) = decide (2 * l.length ≤ 32) := by
  obtain ⟨⟨h1, _⟩, h2⟩ := (name_iff l).1 h
  unfold nameB
  rw [standsAll_append, h2, Nat.zero_add]
  obtain ⟨n, hn⟩ : ∃ n, l.length = n + 1 := ⟨l.length - 1, by omega⟩
  have h3 := all_up l n h2
  rw [List.length_append]
  rw [hn]
  rw [h3, Bool.and_true, Bool.and_true, decide_eq_decide]; omega
theorem name_take (l : List UInt8) (k : Nat) (h : nameB l = true) (hk : k < l.length) : nameB (l.take (k + 1)) = true := by
  obtain ⟨⟨h1, h3⟩, h2⟩ := (name_iff l).1 h
  rw [name_iff, List.length_take]
  refine ⟨by omega, ?_⟩
  rw [← List.take_append_drop (k + 1) l, standsAll_append, Bool.and_eq_true] at h2
  exact h2.1
theorem name_put (l : List UInt8) (c : UInt8) (k : Nat) (h : nameB l = true) (hk : k < l.length) : nameB (l.take (k + 1) ++ [c] ++ l.drop (k + 1)) = (decide (l.length + 1 ≤ 32) && stands 1 c.toNat) := by
  obtain ⟨⟨h1, h3⟩, h2⟩ := (name_iff l).1 h
  have hl : (l.take (k + 1)).length = k + 1 := by rw [List.length_take]; omega
  rw [← List.take_append_drop (k + 1) l, standsAll_append, Bool.and_eq_true, hl] at h2
  unfold nameB
  rw [List.append_assoc, standsAll_append, standsAll_append, h2.1, hl]
  simp only [List.length_append, hl, List.length_cons, List.length_nil, List.length_drop, standsAll, Bool.and_true, Bool.true_and, Nat.zero_add]
  rw [all_pos (l.drop (k + 1)) (k + 1 + (0 + 1)) (0 + (k + 1)) (by omega) (by omega), h2.2, Bool.and_true]
  have hs : stands (k + 1) c.toNat = stands 1 c.toNat := by simp [stands]
  rw [hs]
  congr 1
  rw [decide_eq_decide]; omega
end W
end Go.Proofs.YtphjfighamadgaaGreatDoor
namespace Go.Proofs.YtphjfighamadgaaGreatDoor
namespace J
open Go.Lib (validD itoa)
/-- names that are unlike, and UTF-8 -/
def namesOk : List ByteArray → List ByteArray → Bool
  | _, [] => true
  | seen, x :: r => !(seen.any fun y => decide (y.data.toList = x.data.toList)) && (validD x.data.toList && namesOk (x :: seen) r)
/-- one value's own parts: that only those of its kind are used -/
def plainOk (k : Nat) (b : Bool) (n : Int) (s : ByteArray) : Bool := decide (1 ≤ k ∧ k ≤ 6) && ((!b || k == 2) && ((n == 0 || k == 3) && (s.data.toList.isEmpty || k == 4)))
def listOk (k len nn : Nat) : Bool := (k == 5 || k == 6 || len == 0) && ((k == 6 || nn == 0) && (k != 6 || nn == len))
def flat (k : Nat) (b : Bool) (n : Int) (s : ByteArray) (len : Nat) (ns : List ByteArray) : Bool := plainOk k b n s && (listOk k len ns.length && (validD s.data.toList && namesOk [] ns))
def mayT : T → Bool
  | .nil => true
  | .cons k b n s l ns r => (flat k b n s l.length ns && mayT l) && mayT r
def V.may (x : V) : Bool := flat x.k x.b x.n x.s x.l.length x.ns && mayT x.l
/-- the greatest depth of these -/
def deepT : T → Nat
  | .nil => 0
  | .cons k _ _ _ l _ r => max (if k = 5 ∨ k = 6 then deepT l + 1 else 0) (deepT r)
def V.deep (x : V) : Nat := if x.k = 5 ∨ x.k = 6 then deepT x.l + 1 else 0
def check (x : V) : Int := if x.may then (if 16 < x.deep then 84 else 0) else 1
/-- a byte of a string -/
def byteJ (c : UInt8) : List UInt8 :=
  if c = 34 then [92, 34] else if c = 92 then [92, 92] else if c = 8 then [92, 98] else if c = 12 then [92, 102] else if c = 10 then [92, 110] else if c = 13 then [92, 114] else if c = 9 then [92, 116]
  else if c.toNat < 16 then [92, 117, 48, 48, 48, W.hexD c.toNat] else if c.toNat < 32 then [92, 117, 48, 48, 49, W.hexD (c.toNat - 16)] else [c]
def quoteIn : List UInt8 → List UInt8
  | [] => []
  | c :: r => byteJ c ++ quoteIn r
def quoteL (l : List UInt8) : List UInt8 := 34 :: (quoteIn l ++ [34])
theorem quoteIn_append : ∀ (a b : List UInt8), quoteIn (a ++ b) = quoteIn a ++ quoteIn b
  | [], b => rfl
  | c :: a, b => by simp only [List.cons_append, quoteIn, quoteIn_append a b, List.append_assoc]
/-- what stands in brackets: the values' texts, a comma between them; with their names, or without; first: nothing stands ahead -/
def showT (obj : Bool) (first : Bool) : T → List ByteArray → List UInt8
  | .nil, _ => []
  | .cons k b n s l ns r, names => (if first then [] else [44]) ++ ((if obj then quoteL (names.headD ⟨#[]⟩).data.toList ++ [58] else []) ++
      ((if k = 1 then [110, 117, 108, 108] else if k = 2 then (if b then [116, 114, 117, 101] else [102, 97, 108, 115, 101]) else if k = 3 then itoa n else if k = 4 then quoteL s.data.toList
        else (if k = 6 then 123 else 91) :: (showT (k == 6) true l ns ++ [if k = 6 then 125 else 93])) ++ showT obj false r (names.drop 1)))
def V.show (x : V) : List UInt8 := if x.k = 1 then [110, 117, 108, 108] else if x.k = 2 then (if x.b then [116, 114, 117, 101] else [102, 97, 108, 115, 101]) else if x.k = 3 then itoa x.n else if x.k = 4 then quoteL x.s.data.toList
        else (if x.k = 6 then 123 else 91) :: (showT (x.k == 6) true x.l x.ns ++ [if x.k = 6 then 125 else 93])
/-- Print -/
def V.print (x : V) : List UInt8 × Int := if check x = 0 then (if 65536 < x.show.length then ([], 3) else (x.show, 0)) else ([], check x)
end J
end Go.Proofs.YtphjfighamadgaaGreatDoor
namespace Go.Proofs.YtphjfighamadgaaGreatDoor
namespace J
theorem text0 : (parse [48, 49]).2 = (1, 4) := by kernel_rfl
theorem text1 : (parse [49, 46, 53]).2 = (1, 4) := by kernel_rfl
theorem text2 : (parse [91, 49, 44, 93]).2 = (3, 4) := by kernel_rfl
theorem text3 : (parse [34, 92, 117, 100, 56, 48, 48, 34]).2 = (1, 4) := by kernel_rfl
theorem text4 : (parse [123, 34, 97, 34, 58, 49, 44, 34, 97, 34, 58, 50, 125]).2 = (7, 6) := by kernel_rfl
theorem text5 : (parse [57, 50, 50, 51, 51, 55, 50, 48, 51, 54, 56, 53, 52, 55, 55, 53, 56, 48, 56]).2 = (0, 91) := by kernel_rfl
theorem text6 : (parse [45, 57, 50, 50, 51, 51, 55, 50, 48, 51, 54, 56, 53, 52, 55, 55, 53, 56, 48, 57]).2 = (0, 91) := by kernel_rfl
theorem text7 : (parse []).2 = (0, 4) := by kernel_rfl
theorem text8 : (parse [45, 48]).2 = (1, 4) := by kernel_rfl
theorem text9 : (parse [45]).2 = (1, 4) := by kernel_rfl
theorem text10 : (parse [49, 101, 51]).2 = (1, 4) := by kernel_rfl
theorem text11 : (parse [110, 117, 108]).2 = (3, 4) := by kernel_rfl
theorem text12 : (parse [34, 1, 34]).2 = (1, 4) := by kernel_rfl
theorem text13 : (parse [34, 255, 34]).2 = (1, 4) := by kernel_rfl
theorem text14 : (parse [49, 32, 50]).2 = (2, 4) := by kernel_rfl
theorem text_deep : (parse [91, 91, 91, 91, 91, 91, 91, 91, 91, 91, 91, 91, 91, 91, 91, 91, 91]).2 = (16, 84) := by kernel_rfl
theorem text_low : parse [45, 57, 50, 50, 51, 51, 55, 50, 48, 51, 54, 56, 53, 52, 55, 55, 53, 56, 48, 56] = (⟨3, false, -9223372036854775808, ⟨#[]⟩, .nil, []⟩, 0, 0) := by kernel_rfl
def awV : V := ⟨6, false, 0, ⟨#[]⟩, .cons 5 false 0 ⟨#[]⟩ (.cons 3 false 1 ⟨#[]⟩ .nil [] (.cons 2 true 0 ⟨#[]⟩ .nil [] .nil)) [] (.cons 4 false 0 ⟨#[120, 195, 169]⟩ .nil [] .nil), [⟨#[97]⟩, ⟨#[98]⟩]⟩
theorem text_aw : parse [32, 123, 32, 34, 97, 34, 32, 58, 32, 91, 32, 49, 32, 44, 32, 116, 114, 117, 101, 32, 93, 32, 44, 32, 34, 98, 34, 32, 58, 32, 34, 120, 92, 117, 48, 48, 101, 57, 34, 32, 125, 32] = (awV, 0, 0) := by kernel_rfl
def awL : T := .cons 3 false (-5) ⟨#[]⟩ .nil [] (.cons 1 false 0 ⟨#[]⟩ .nil [] .nil)
def awP : V := ⟨6, false, 0, ⟨#[]⟩, .cons 5 false 0 ⟨#[]⟩ awL [] .nil, [⟨#[97]⟩]⟩
theorem print_aw : awP.print = ([123, 34, 97, 34, 58, 91, 45, 53, 44, 110, 117, 108, 108, 93, 125], 0) := by kernel_rfl
theorem show_aw : awP.show.length = 14 + 1 := by kernel_rfl
def argV : V := ⟨3, false, 0, ⟨#[120]⟩, .nil, []⟩
theorem print_arg : argV.print.2 = 1 := by kernel_rfl
def strV : V := ⟨4, false, 0, ⟨#[97, 10, 1, 127]⟩, .nil, []⟩
theorem print_str : strV.print = ([34, 97, 92, 110, 92, 117, 48, 48, 48, 49, 127, 34], 0) := by kernel_rfl
end J
end Go.Proofs.YtphjfighamadgaaGreatDoor
namespace Go.Proofs.YtphjfighamadgaaGreatDoor
open Go.RowKit
open Go.Lib (hid)
namespace J
/-- a slice holds these texts; its block is among P -/
def SIn (w : World) (P : Nat → Prop) (ns : List ByteArray) (v : Value) : Prop :=
  (ns = [] ∧ ∃ a c, v = .slice a 0 c ∧ (a = none → c = 0)) ∨ (0 < ns.length ∧ ∃ b o c, v = .slice (some ⟨b, o, none⟩) ns.length c ∧ P b ∧ ns.length ≤ c ∧ ∀ j x, ns[j]? = some x → w.cell? ⟨b, o + j, none⟩ = some (.string x))
theorem SIn.keep {P Q : Nat → Prop} {w w' : World} (hP : ∀ b, P b → Q b) (h : ∀ b, P b → w'.heap[b]? = w.heap[b]?) {ns : List ByteArray} {v : Value} (hv : SIn w P ns v) : SIn w' Q ns v := by
  rcases hv with hv | ⟨h0, b, o, c, hv, hb, hc, ha⟩
  · exact Or.inl hv
  · exact Or.inr ⟨h0, b, o, c, hv, hP b hb, hc, fun j x hj => by rw [World.cell?_of_block (w := w) (h b hb)]; exact ha j x hj⟩
theorem SIn.mono {P Q : Nat → Prop} {w : World} (hP : ∀ b, P b → Q b) {ns : List ByteArray} {v : Value} (hv : SIn w P ns v) : SIn w Q ns v := hv.keep hP fun _ _ => rfl
theorem SIn.shape {P : Nat → Prop} {w : World} {ns : List ByteArray} {v : Value} (h : SIn w P ns v) : ∃ a c, v = .slice a ns.length c := by
  rcases h with ⟨rfl, a, c, h, _⟩ | ⟨_, b, o, c, h, _⟩
  · exact ⟨a, c, h⟩
  · exact ⟨_, c, h⟩
/-- these values stand in this block from this place on; their blocks are among P -/
def T.At (w : World) (P : Nat → Prop) : T → Nat → Nat → Prop
  | .nil, _, _ => True
  | .cons k b n s l ns r, g, o => P g ∧ w.cell? ⟨g, o, none⟩ = some (.int .u8 k) ∧ w.cell? ⟨g, o + 1, none⟩ = some (.bool b) ∧ w.cell? ⟨g, o + 2, none⟩ = some (.int .i64 n) ∧ w.cell? ⟨g, o + 3, none⟩ = some (.string s) ∧
      (∃ v, w.cell? ⟨g, o + 4, none⟩ = some v ∧ ((l = .nil ∧ ∃ a c, v = .slice a 0 c ∧ (a = none → c = 0)) ∨ ∃ g' o' c, v = .slice (some ⟨g', o', none⟩) l.length c ∧ l.length ≤ c ∧ 0 < l.length ∧ l.At w P g' o')) ∧
      (∃ v, w.cell? ⟨g, o + 5, none⟩ = some v ∧ SIn w P ns v) ∧ r.At w P g (o + 6)
/-- a slice holds these values -/
def T.In (w : World) (P : Nat → Prop) (t : T) (v : Value) : Prop :=
  (t = .nil ∧ ∃ a c, v = .slice a 0 c ∧ (a = none → c = 0)) ∨ ∃ g o c, v = .slice (some ⟨g, o, none⟩) t.length c ∧ t.length ≤ c ∧ 0 < t.length ∧ t.At w P g o
theorem T.At.keep {P Q : Nat → Prop} {w w' : World} (hP : ∀ b, P b → Q b) (h : ∀ b, P b → w'.heap[b]? = w.heap[b]?) : ∀ (t : T) (g o : Nat), t.At w P g o → t.At w' Q g o
  | .nil, _, _, _ => trivial
  | .cons k b n s l ns r, g, o, ⟨hg, h0, h1, h2, h3, ⟨v, h4, hv⟩, ⟨u, h5, hu⟩, hr⟩ => by
    have hc : ∀ i, w'.cell? ⟨g, i, none⟩ = w.cell? ⟨g, i, none⟩ := fun i => World.cell?_of_block (w := w) (h g hg)
    refine ⟨hP g hg, ?_, ?_, ?_, ?_, ⟨v, ?_, ?_⟩, ⟨u, ?_, hu.keep hP h⟩, T.At.keep hP h r g (o + 6) hr⟩
    · rw [hc]; exact h0
    · rw [hc]; exact h1
    · rw [hc]; exact h2
    · rw [hc]; exact h3
    · rw [hc]; exact h4
    · rcases hv with hv | ⟨g', o', c, hv, hl, hp, ha⟩
      · exact Or.inl hv
      · exact Or.inr ⟨g', o', c, hv, hl, hp, T.At.keep hP h l g' o' ha⟩
    · rw [hc]; exact h5
theorem T.In.keep {P Q : Nat → Prop} {w w' : World} (hP : ∀ b, P b → Q b) (h : ∀ b, P b → w'.heap[b]? = w.heap[b]?) {t : T} {v : Value} (hv : t.In w P v) : t.In w' Q v := by
  rcases hv with hv | ⟨g, o, c, hv, hl, hp, ha⟩
  · exact Or.inl hv
  · exact Or.inr ⟨g, o, c, hv, hl, hp, T.At.keep hP h t g o ha⟩
theorem T.In.mono {P Q : Nat → Prop} {w : World} (hP : ∀ b, P b → Q b) {t : T} {v : Value} (hv : t.In w P v) : t.In w Q v := hv.keep hP fun _ _ => rfl
theorem T.In.shape {P : Nat → Prop} {w : World} {t : T} {v : Value} (h : t.In w P v) : ∃ a c, v = .slice a t.length c := by
  rcases h with ⟨rfl, a, c, h, _⟩ | ⟨g, o, c, h, _⟩
  · exact ⟨a, c, h⟩
  · exact ⟨_, c, h⟩
/-- the cells of one value, what hangs on it among P -/
def V.Has (w : World) (P : Nat → Prop) (x : V) (cs : List Value) : Prop := ∃ lv nv, cs = [.int .u8 x.k, .bool x.b, .int .i64 x.n, .string x.s, lv, nv] ∧ x.l.In w P lv ∧ SIn w P x.ns nv
theorem V.Has.keep {P Q : Nat → Prop} {w w' : World} (hP : ∀ b, P b → Q b) (h : ∀ b, P b → w'.heap[b]? = w.heap[b]?) {x : V} {cs : List Value} (hv : x.Has w P cs) : x.Has w' Q cs := by
  obtain ⟨lv, nv, h1, h2, h3⟩ := hv
  exact ⟨lv, nv, h1, h2.keep hP h, h3.keep hP h⟩
/-- the cells of values in a row -/
def T.Cells (w : World) (P : Nat → Prop) : T → List Value → Prop
  | .nil, cs => cs = []
  | .cons k b n s l ns r, cs => ∃ lv nv cs', cs = .int .u8 k :: .bool b :: .int .i64 n :: .string s :: lv :: nv :: cs' ∧ l.In w P lv ∧ SIn w P ns nv ∧ r.Cells w P cs'
theorem T.Cells.keep {P Q : Nat → Prop} {w w' : World} (hP : ∀ b, P b → Q b) (h : ∀ b, P b → w'.heap[b]? = w.heap[b]?) : ∀ (t : T) (cs : List Value), t.Cells w P cs → t.Cells w' Q cs
  | .nil, _, hc => hc
  | .cons _ _ _ _ _ _ r, _, ⟨lv, nv, cs', he, hl, hn, hr⟩ => ⟨lv, nv, cs', he, hl.keep hP h, hn.keep hP h, T.Cells.keep hP h r cs' hr⟩
theorem T.Cells.app {P : Nat → Prop} {w : World} : ∀ (a b : T) (cs ds : List Value), a.Cells w P cs → b.Cells w P ds → (a.app b).Cells w P (cs ++ ds)
  | .nil, b, cs, ds, hc, hd => by
    rw [show cs = [] from hc]
    exact hd
  | .cons _ _ _ _ _ _ r, b, _, ds, ⟨lv, nv, cs', he, hl, hn, hr⟩, hd => ⟨lv, nv, cs' ++ ds, by rw [he]; rfl, hl, hn, T.Cells.app r b cs' ds hr hd⟩
theorem T.Cells.one {P : Nat → Prop} {w : World} {x : V} {cs : List Value} (h : x.Has w P cs) : x.one.Cells w P cs := by
  obtain ⟨lv, nv, rfl, h2, h3⟩ := h
  exact ⟨lv, nv, [], rfl, h2, h3, rfl⟩
theorem T.Cells.at {P : Nat → Prop} {w : World} {g : Nat} (hg : P g) : ∀ (t : T) (cs : List Value) (o : Nat), t.Cells w P cs → (∀ j u, cs[j]? = some u → w.cell? ⟨g, o + j, none⟩ = some u) → t.At w P g o
  | .nil, _, _, _, _ => trivial
  | .cons k b n s l ns r, cs, o, ⟨lv, nv, cs', he, hl, hn, hr⟩, hc => by
    subst he
    refine ⟨hg, hc 0 _ rfl, hc 1 _ rfl, hc 2 _ rfl, hc 3 _ rfl, ⟨lv, hc 4 _ rfl, ?_⟩, ⟨nv, hc 5 _ rfl, hn⟩, T.Cells.at hg r cs' (o + 6) hr (fun j u hj => ?_)⟩
    · rcases hl with hl | ⟨g', o', c, hv, h1, h2, h3⟩
      · exact Or.inl hl
      · exact Or.inr ⟨g', o', c, hv, h1, h2, h3⟩
    · have := hc (j + 6) u (by simpa using hj)
      rw [show o + 6 + j = o + (j + 6) by omega]
      exact this
theorem T.length_pos {t : T} (h : t ≠ .nil) : 0 < t.length := by
  cases t with
  | nil => exact absurd rfl h
  | cons => simp [T.length]
end J
/-- what lies between B and the heap's end, in rows that may be written, but for one block -/
def Own (w : World) (B : Nat) (g0 : Option Nat) (b : Nat) : Prop := B ≤ b ∧ b < w.heap.size ∧ g0 ≠ some b ∧ ∃ cs T, w.heap[b]? = some (.cells cs T (0, 0))
/-- a row of the call's own, from block B on, holds these values; what hangs on them is of the call's own too, and apart from the row -/
def JOwn (E : TypeId) (B : Nat) (t : J.T) (v : Value) (w : World) : Prop :=
  ∃ cs, w.ownsRow B E 6 v t.length cs ∧ t.Cells w (Own w B v.ownBlock) cs
theorem JOwn.nil (E : TypeId) (B : Nat) (w : World) : JOwn E B .nil (.slice none 0 0) w := ⟨[], World.ownsRow_nil _ _ _ _, rfl⟩
theorem Own.below {w w' : World} {B b : Nat} {g0 : Option Nat} (h : Own w B g0 b) (hb : Below w.heap.size w w') : Own w' B g0 b := by
  obtain ⟨h1, h2, h3, cs, T, h4⟩ := h
  exact ⟨h1, Nat.lt_of_lt_of_le h2 hb.size, h3, cs, T, by rw [hb.block b h2]; exact h4⟩
theorem JOwn.below {E : TypeId} {B : Nat} {t : J.T} {v : Value} {w w' : World} (h : JOwn E B t v w) (hb : Below w.heap.size w w') : JOwn E B t v w' := by
  obtain ⟨cs, h1, h2⟩ := h
  exact ⟨cs, World.ownsRow.kept (row := none) h1 ⟨hb.os, hb.tape, hb.output, hb.size, fun k hk _ => hb.block k hk⟩ (Classical.em _),
    J.T.Cells.keep (fun b hb' => hb'.below hb) (fun b hb' => hb.block b hb'.2.1) t cs h2⟩
theorem JOwn.lt {E : TypeId} {B : Nat} {t : J.T} {v : Value} {w : World} (h : JOwn E B t v w) : ∀ k, v.ownBlock = some k → B ≤ k ∧ k < w.heap.size := by
  obtain ⟨cs, h1, _⟩ := h
  exact World.ownsRow.lt h1
theorem JOwn.shape {E : TypeId} {B : Nat} {t : J.T} {v : Value} {w : World} (h : JOwn E B t v w) : ∃ a c, v = .slice a t.length c := by
  obtain ⟨cs, h1, _⟩ := h
  rcases h1.2 with ⟨rfl, h0⟩ | ⟨g, cap, cur, rfl, _⟩
  · exact ⟨none, 0, by rw [h0]⟩
  · exact ⟨_, _, rfl⟩
/-- it reads as these values -/
theorem JOwn.is {E : TypeId} {B : Nat} {t : J.T} {v : Value} {w : World} (h : JOwn E B t v w) : t.In w (Own w B none) v := by
  obtain ⟨cs, h1, h2⟩ := h
  have hlt := World.ownsRow.lt h1
  have hc := fun g (hg : v.ownBlock = some g) => World.ownsRow.cells h1 hg
  rcases h1.2 with ⟨rfl, h0⟩ | ⟨g, cap, cur, rfl, _, hgr, hcap, _⟩
  · refine Or.inl ⟨?_, none, 0, rfl, fun _ => rfl⟩
    cases t with
    | nil => rfl
    | cons => simp [J.T.length] at h0
  · rcases Nat.eq_zero_or_pos t.length with h0 | h0
    · refine Or.inl ⟨?_, _, cap, by rw [h0], fun h => by cases h⟩
      cases t with
      | nil => rfl
      | cons => simp [J.T.length] at h0
    · refine Or.inr ⟨g, 0, cap, rfl, hcap, h0, ?_⟩
      refine J.T.Cells.at (P := Own w B none) ⟨(hlt g rfl).1, (hlt g rfl).2, (fun e => by cases e), _, _, hgr⟩ t cs 0 (J.T.Cells.keep (fun b hb => ⟨hb.1, hb.2.1, (fun e => by cases e), hb.2.2.2⟩) (fun _ _ => rfl) t cs h2) (fun j u hj => ?_)
      have := hc g rfl j u hj
      have e : (⟨g, 0, none⟩ : Addr).add j = ⟨g, j, none⟩ := by cases j <;> simp [Addr.add]
      rw [e] at this
      rw [Nat.zero_add]; exact this
/-- one value more -/
theorem JOwn.more {E : TypeId} {B : Nat} {t : J.T} {v : Value} {w w' : World} {x : J.V} {new cs : List Value} (hx : x.Has w (Own w B v.ownBlock) new) (hcs : t.Cells w (Own w B v.ownBlock) cs) {g cap : Nat}
    (hown : w'.ownsRow B E 6 (.slice (some ⟨g, 0, none⟩) (t.length + 1) cap) (t.length + 1) (cs ++ new)) (hgrow : w.grownBy w' v.ownBlock) (hat : v.ownBlock = some g ∨ g = w.heap.size) : JOwn E B (t.snoc x) (.slice (some ⟨g, 0, none⟩) (t.length + 1) cap) w' := by
  have hl : (t.snoc x).length = t.length + 1 := by
    unfold J.T.snoc
    rw [J.T.app_length]; rfl
  refine ⟨_, by rw [hl]; exact hown, ?_⟩
  have hs := hgrow.size
  refine J.T.Cells.keep (P := Own w B v.ownBlock) ?_ (fun b hb => hgrow.block b hb.2.1 (fun e => hb.2.2.1 e.symm)) _ _ (J.T.Cells.app t x.one cs new hcs (J.T.Cells.one hx))
  rintro b ⟨h1, h2, h3, cs', T, h4⟩
  refine ⟨h1, by omega, ?_, cs', T, by rw [hgrow.block b h2 (fun e => h3 e.symm)]; exact h4⟩
  intro e
  simp only [Value.ownBlock, Option.some.injEq] at e
  subst e
  rcases hat with hat | hat
  · exact h3 hat
  · omega
end Go.Proofs.YtphjfighamadgaaGreatDoor
namespace Go.Proofs.YtphjfighamadgaaGreatDoor
open Go.RowKit
open Go.Lib (hid)

theorem validRune_ok (c : Int) : Lib.validRune c = W.charOk c := by
  unfold Lib.validRune W.charOk
  rw [Bool.eq_iff_iff]
  simp only [Bool.or_eq_true, decide_eq_true_eq]
  omega
theorem encode_charL (c : Int) (hok : W.charOk c = true) : Utf8.encode c = ⟨(W.charL c).toArray⟩ := by
  have h0 : 0 ≤ c := by
    simp only [W.charOk, Bool.or_eq_true, decide_eq_true_eq] at hok
    omega
  obtain ⟨n, rfl⟩ := Int.eq_ofNat_of_zero_le h0
  have e : W.charL (n : Int) = (Utf8.encode (n : Int)).data.toList := by
    unfold W.charL
    rw [if_pos hok, Int.toNat_natCast]
    exact (W.charN_encode n hok).symm
  obtain ⟨b, hb⟩ : ∃ b, Utf8.encode (n : Int) = b := ⟨_, rfl⟩
  rw [hb] at e ⊢
  obtain ⟨l, hl⟩ : ∃ l, W.charL (n : Int) = l := ⟨_, rfl⟩
  rw [hl] at e ⊢
  subst e
  exact ByteArray.ext (by simp)

namespace W
theorem decode_err (l : List UInt8) (h : (Lib.decodeL l).1 = 65533) : (Lib.decodeL l).2 = 1 ∨ (Lib.decodeL l).2 = 3 := by
  rw [decodeL_N] at h ⊢
  generalize (l.getD 0 0).toNat = b0 at h ⊢
  generalize (l.getD 1 0).toNat = b1 at h ⊢
  generalize (l.getD 2 0).toNat = b2 at h ⊢
  generalize (l.getD 3 0).toNat = b3 at h ⊢
  unfold Lib.decodeN at h ⊢
  by_cases a0 : b0 < 128
  · rw [if_pos a0]; left; rfl
  rw [if_neg a0] at h ⊢
  by_cases a1 : b0 / 32 = 6 ∧ (1 < l.length ∧ b1 / 64 = 2)
  · rw [if_pos a1] at h ⊢
    by_cases c : b0 % 32 * 64 + b1 % 64 ≥ 128
    · rw [if_pos c] at h; simp only at h; omega
    · rw [if_neg c]; left; rfl
  rw [if_neg a1] at h ⊢
  by_cases a2 : b0 / 16 = 14 ∧ (1 < l.length ∧ b1 / 64 = 2) ∧ (2 < l.length ∧ b2 / 64 = 2)
  · rw [if_pos a2]
    split
    · right; rfl
    · left; rfl
  rw [if_neg a2] at h ⊢
  by_cases a3 : b0 / 8 = 30 ∧ (1 < l.length ∧ b1 / 64 = 2) ∧ (2 < l.length ∧ b2 / 64 = 2) ∧ (3 < l.length ∧ b3 / 64 = 2)
  · rw [if_pos a3] at h ⊢
    split at h
    · rename_i c; simp only at h; omega
    · rename_i c; rw [if_neg c]; left; rfl
  · rw [if_neg a3]; left; rfl
theorem decodeGo_drop (s : ByteArray) (n : Nat) (h : n < s.size) : Lib.decodeGo (s.extract n s.size) = Lib.decodeL (s.data.toList.drop n) := by
  have e : s.extract n s.size = ⟨(s.data.toList.drop n).toArray⟩ := by
    have := W.extract_eq s n (s.size - n)
    rw [show n + (s.size - n) = s.size by omega] at this
    rw [this, List.take_of_length_le (by simp)]
  unfold Lib.decodeGo Lib.decodeL
  rw [if_neg (by rw [ByteArray.size_extract]; omega), e]
end W
theorem enc_last {r : Int} (h : 128 ≤ r) (hok : W.charOk r = true) : ∃ (b : ByteArray) (l : Nat) (hl : l < b.size), Utf8.encode r = b ∧ b.size = l + 1 ∧ 1 ≤ l ∧ l ≤ 3 ∧ 128 ≤ (b[l]'hl).toNat := by
  rw [encode_charL r hok]
  have hm : 128 ≤ (UInt8.ofNat (128 + r % 64).toNat).toNat := by
    have h1 : (128 + r % 64).toNat < 256 := by omega
    rw [UInt8.toNat_ofNat_of_lt' h1]; omega
  by_cases h2 : r ≤ 2047
  · rw [W.charL_2 r h h2]
    exact ⟨_, 1, by show 1 < 2; omega, rfl, rfl, by omega, by omega, hm⟩
  · by_cases h3 : r ≤ 65535
    · rw [W.charL_3 r (by omega) h3 hok]
      exact ⟨_, 2, by show 2 < 3; omega, rfl, rfl, by omega, by omega, hm⟩
    · have h4 : r ≤ 1114111 := by simp only [W.charOk, Bool.or_eq_true, decide_eq_true_eq] at hok; omega
      rw [W.charL_4 r (by omega) h4]
      exact ⟨_, 3, by show 3 < 4; omega, rfl, rfl, by omega, by omega, hm⟩
end Go.Proofs.YtphjfighamadgaaGreatDoor
namespace Go.Proofs.YtphjfighamadgaaGreatDoor
open Go.RowKit
open Go.Lib (hid)
/-- a text of ASCII bytes alone -/
def Asc (s : ByteArray) : Prop := ∀ (j : Nat) b, s.data.toList[j]? = some b → b.toNat < 128
theorem Asc.at {s : ByteArray} (h : Asc s) {i : Nat} (hi : i < s.size) : s[i].toNat < 128 := h i _ (Lib.data_getElem? s i hi)
theorem index_high {s : ByteArray} (h : Asc s) {l : List UInt8} (hl : ∃ k, l = s.data.toList.drop k) {c : UInt8} (hc : 128 ≤ c.toNat) : Lib.indexByte l c = -1 := by
  have hge := Lib.indexByte_ge l c
  by_cases h0 : Lib.indexByte l c < 0
  · omega
  · obtain ⟨o, ho⟩ := Int.eq_ofNat_of_zero_le (Int.not_lt.1 h0)
    have h1 := (Lib.indexByte_some ho).1
    obtain ⟨k, rfl⟩ := hl
    rw [List.getElem?_drop] at h1
    have := h _ _ h1
    omega
theorem Below.iter (w : World) (s : ByteArray) (i : Nat) : Below w.heap.size w (w.iter s i) := (Below.refl _ w).alloc (Nat.le_refl _) _
set_option maxRecDepth 100000 in
set_option maxHeartbeats 2000000 in
theorem indexRune_high (s : ByteArray) (hA : Asc s) (_hs : s.size ≤ 1000) (r : Int) (h0 : 128 ≤ r) (h1 : r ≤ 2147483647) (w : World) :
    Calls Tryz.prog 81 #[.string s, .int .i32 r] w fun e w' => e = .returned (.int .i64 (-1)) ∧ Below w.heap.size w w' := by
  have HA := hid hA
  clear hA
  have t0 : decide ((0 : Int) ≤ r) = true := by simp; omega
  have t1 : decide (r < 128) = false := by simp; omega
  by_cases he : r = 65533
  · subst he
    clear t0 t1 h0 h1
    go_enter Tryz.func81, Tryz.ntmps81
    go_wp2_with fail
    go_loopg [] s.size (fun g wx => ∃ i : Nat, i + g = s.size ∧ wx = w.iter s i)
    case atStart => exact ⟨0, by omega, rfl⟩
    case round =>
      obtain ⟨i, hig, rfl⟩ := hrel
      cases gk with
      | zero =>
        obtain rfl : i = s.size := by omega
        have hnx := run_next_end (P := Tryz.prog) w s s.size
        go_wp2_with fail
        go_ret
        exact ⟨rfl, Below.iter w s _⟩
      | succ g =>
        have hi : i < s.size := by omega
        have hx := HA.out.at hi
        have hnx := fun ty => run_next_ascii (P := Tryz.prog) w s i ty hi hx
        have t2 : ((s[i].toNat : Int) == 65533) = false := beq_eq_false_iff_ne.2 (by omega)
        clear hx
        go_wp2_with fail
        go_roundg g
        case measure => omega
        case rel => exact ⟨i + 1, by omega, rfl⟩
  · have t2 : (r == 65533) = false := beq_eq_false_iff_ne.2 he
    have hv := validRune_ok r
    cases hok : W.charOk r
    · rw [hok] at hv
      clear hok he
      go_enter Tryz.func81, Tryz.ntmps81
      go_wp2_with fail
      refine (Tryz.utf8_ValidRune _ _).mono ?_
      rintro e w' ⟨rfl, hw'⟩
      rw [hw']
      rw [hv]
      go_wp2_with fail
      go_ret
      exact ⟨rfl, Below.refl _ _⟩
    · rw [hok] at hv
      obtain ⟨b, l, hl, hb, hbs, l1, l3, hb8⟩ := enc_last h0 hok
      have HB := hid hb8
      have e1 : (b.size : Int) - 1 = (l : Int) := by omega
      have e3 : (l : Int) + 1 = ((l + 1 : Nat) : Int) := by omega
      have L0 : (0 : Int) ≤ (l : Int) := by omega
      have L1 : (l : Int) < (b.size : Int) := by omega
      clear hok he hb8 hbs
      go_enter Tryz.func81, Tryz.ntmps81
      go_wp2_with fail
      refine (Tryz.utf8_ValidRune _ _).mono ?_
      rintro e w' ⟨rfl, hw'⟩
      rw [hw']
      rw [hv]
      go_wp2_with fail
      go_step3
      go_wp2_with fail
      go_loop [9] (fun v => v = .int .i64 l) (fun _ => 1)
      case atStart => exact rfl
      case round =>
        obtain rfl := hrel
        by_cases hls : l < s.size
        · have t3 : decide ((l : Int) < (s.size : Int)) = true := by simp; omega
          have L2 : (l : Int) < (s.size : Int) := by omega
          obtain ⟨m, hm⟩ : ∃ m, l + 1 = m := ⟨_, rfl⟩
          have L3 : (l : Int) + 1 = (m : Int) := by omega
          have L4 : IntKind.i64.wrap (m : Int) = (m : Int) := by rw [IntKind.wrap_i64]; omega
          have L5 : (0 : Int) ≤ (m : Int) := by omega
          have L6 : (m : Int) ≤ (s.size : Int) := by omega
          have t4 : ((s[l].toNat : Int) != (b[l].toNat : Int)) = true := by
            rw [bne_iff_ne]
            have := HA.out.at hls
            have := HB.out
            omega
          have HX := hid (index_high (l := (s.extract m s.size).data.toList) HA.out ⟨m, Lib.extract_to_end s m⟩ (c := b[l]) HB.out)
          have cI := fun W => Tryz.strings_IndexByte (s.extract m s.size) (b[l].toNat : Int) W
          have e4 : ((b[l].toNat : Int)).toNat.toUInt8 = b[l] := by simp
          rw [e4, HX.out] at cI
          clear HX e4 hm e3
          go_wp2_with fail
          go_step3
          go_wp2_with fail
          go_quiet (fail)
          go_wp2_with fail
          go_quiet (first | (go_at_call 87; exact (cI _).mono (fun _ _ h => ⟨h.1, _, h.2⟩)))
          go_wp2_with fail
          (repeat (first | rw [Exit.noGoto_ret] | simp only [Exit.inBlock]))
          go_big_unhide
          (repeat (first | rw [Exit.noGoto_ret] | simp only [Exit.inBlock, Exit.then]))
          go_ret
          exact ⟨rfl, below_drewN (Below.refl _ w) _⟩
        · have t3 : decide ((l : Int) < (s.size : Int)) = false := by simp; omega
          go_wp2_with fail
          go_ret
          exact ⟨rfl, Below.refl _ _⟩
/-- which bytes of a set stand in a text: no place, or one -/
def Any4 (s cs : ByteArray) (v : Int) : Prop := v = -1 ∨ (∃ (i : Nat) (h : i < s.size), v = (i : Int) ∧ s[i] ∈ cs.data.toList)
set_option maxRecDepth 100000 in
set_option maxHeartbeats 2000000 in
theorem indexAny_short (s cs : ByteArray) (hA : Asc cs) (h2 : 2 ≤ cs.size) (hc : cs.size ≤ 1000) (h8 : s.size ≤ 8) (w : World) :
    Calls Tryz.prog 124 #[.string s, .string cs] w fun e w' => (∃ v : Int, e = .returned (.int .i64 v) ∧ Any4 s cs v) ∧ Below w.heap.size w w' := by
  have hemp : cs.toList.isEmpty = false := by
    rw [Lib.toList_data]
    cases h : cs.data.toList with
    | nil => have := Lib.size_eq cs; rw [h, List.length_nil] at this; omega
    | cons _ _ => rfl
  have hn1 : ((cs.size : Int) == 1) = false := beq_eq_false_iff_ne.2 (by omega)
  have h8z : decide ((8 : Int) < (s.size : Int)) = false := decide_eq_false (by omega)
  have HA := hid hA
  clear hA
  go_enter Tryz.func124, Tryz.ntmps124
  go_wp2_with fail
  refine (Tryz.strings_shouldUseASCIISet _ _).mono ?_
  rintro e w' ⟨rfl, hw'⟩
  rw [hw']
  rw [h8z]
  go_wp2_with fail
  go_loopg [] s.size (fun g wx => ∃ i : Nat, s.size - i ≤ g ∧ Hid (Below w.heap.size w wx ∧ wx.heap[w.heap.size]? = some (.stringIter s i)))
  case atStart => exact ⟨0, by omega, hid ⟨Below.iter w s 0, World.iter_heap w s 0⟩⟩
  case round =>
    obtain ⟨i, hig, hI⟩ := hrel
    have hk := hI.out.2
    have HB := hid hI.out.1
    have hlt := Go.lt_of_block hk
    clear hI
    by_cases hi : i < s.size
    · have hnx := fun ty => Lib.run_next_any_at (P := Tryz.prog) wr w.heap.size s i ty hk hi
      have hk2 := fun p => Lib.iterAt_heap wr w.heap.size s i p hk
      have hb2 := fun p => Lib.below_iterAt HB.out (Nat.le_refl _) s p
      have hsz := fun p => Lib.iterAt_size wr w.heap.size s p
      by_cases ha : s[i].toNat < 128
      · rw [decode_ascii s i hi ha] at hnx
        have K2 := hid (hk2 (i + 1))
        have B2 := hid (hb2 (i + 1))
        have hcon := Lib.contains_iff_indexByte cs.data.toList s[i]
        have hback : ((s[i].toNat : Int)).toNat.toUInt8 = s[i] := by simp
        have cR := fun W => Tryz.strings_IndexRune_ascii cs (s[i].toNat : Int) W (by omega) (by omega)
        rw [hback] at cR
        clear hk2 hb2 hsz hk hback
        simp only at hnx
        generalize wr.iterAt w.heap.size s (i + 1) = w2 at *
        cases hin : cs.data.toList.contains s[i]
        · rw [hin] at hcon
          have hlt0 : decide ((0 : Int) ≤ Lib.indexByte cs.data.toList s[i]) = false := hcon.symm
          clear hcon hin
          go_wp2_with fail
          refine (cR _).mono ?_
          rintro e w' ⟨rfl, hw'⟩
          rw [hw']
          go_wp2_with fail
          go_roundg (s.size - (i + 1))
          case measure => omega
          case rel => exact ⟨i + 1, Nat.le_refl _, hid ⟨B2.out, K2.out⟩⟩
        · rw [hin] at hcon
          have hlt0 : decide ((0 : Int) ≤ Lib.indexByte cs.data.toList s[i]) = true := hcon.symm
          have HM : Hid (s[i] ∈ cs.data.toList) := by show s[i] ∈ _; simpa using hin
          clear hcon hin
          go_wp2_with fail
          refine (cR _).mono ?_
          rintro e w' ⟨rfl, hw'⟩
          rw [hw']
          go_wp2_with fail
          go_ret
          exact ⟨⟨_, rfl, Or.inr ⟨i, hi, rfl, HM.out⟩⟩, B2.out⟩
      · have hh := decode_high s i hi (by omega)
        have hle := decode_le s i
        obtain ⟨d, hd⟩ : ∃ d, Utf8.decode s i = d := ⟨_, rfl⟩
        rw [hd] at hnx hh hle
        obtain ⟨c, k⟩ := d
        simp only at hnx hh hle
        obtain ⟨c128, k1⟩ := hh
        have K2 := hid (hk2 (i + k))
        have B2 := hid (hb2 (i + k))
        have S2 := hid (hsz (i + k))
        clear hk2 hb2 hsz hk hd
        generalize wr.iterAt w.heap.size s (i + k) = w2 at *
        have cR := fun W => indexRune_high cs HA.out hc (c : Int) (by omega) (by omega) W
        go_wp2_with fail
        refine (cR _).mono ?_
        rintro e w' ⟨rfl, hb⟩
        have K3 : Hid (w'.heap[w.heap.size]? = some (.stringIter s (i + k))) := by
          show _ = _
          rw [hb.block _ (by rw [S2.out]; exact hlt)]; exact K2.out
        have B3 := hid (B2.out.trans (hb.mono (by rw [S2.out]; omega)))
        clear hb
        go_wp2_with fail
        go_roundg (s.size - (i + k))
        case measure => omega
        case rel => exact ⟨i + k, Nat.le_refl _, hid ⟨B3.out, K3.out⟩⟩
    · have hnx := fun ty => Lib.run_next_end_at (P := Tryz.prog) wr w.heap.size s i ty hk hi
      clear hk
      go_wp2_with fail
      go_ret
      exact ⟨⟨-1, rfl, Or.inl rfl⟩, HB.out⟩
set_option maxRecDepth 100000 in
theorem containsAny_short (s cs : ByteArray) (hA : Asc cs) (h2 : 2 ≤ cs.size) (hc : cs.size ≤ 1000) (h8 : s.size ≤ 8) (w : World) :
    Calls Tryz.prog 110 #[.string s, .string cs] w fun e w' => (∃ v : Bool, e = .returned (.bool v) ∧ (v = true → ∃ (i : Nat) (h : i < s.size), s[i] ∈ cs.data.toList)) ∧ Below w.heap.size w w' := by
  have cI := indexAny_short s cs hA h2 hc h8 w
  clear hA
  go_enter Tryz.func110, Tryz.ntmps110
  go_wp2_with fail
  refine cI.mono ?_
  rintro e w' ⟨⟨v, rfl, hv⟩, hb⟩
  have HV := hid hv
  have HB := hid hb
  clear hv hb
  go_wp2_with fail
  go_ret
  refine ⟨⟨_, rfl, fun ht => ?_⟩, HB.out⟩
  rcases HV.out with h | ⟨i, hi, -, hm⟩
  · subst h; simp at ht
  · exact ⟨i, hi, hm⟩
end Go.Proofs.YtphjfighamadgaaGreatDoor
