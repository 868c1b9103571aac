/- The walks of the functions on characters: what the document's answer and the program say of a number. -/
import Derived.Test.YtakplnceiibmlaaGreatDoorProg
import Derived.Test.YtakplnceiibmlaaGreatDoorWPlainB
import Derived.Test.YtakplnceiibmlaaGreatDoorWPlainA
import Derived.Test.YtakplnceiibmlaaGreatDoorShelf
import Derived.WalkKit
import Derived.WalkLawsBesides
import Derived.BigGuardPart
import Derived.Lib.Hide
namespace Go.Proofs.YtakplnceiibmlaaGreatDoor
open Go.RowKit Go.Lib

/-- 'string([]byte{..})' of the block that was made last -/
theorem conv_new (W : World) (ns : List Int) (k : Nat) (hk : ns.length = k) :
    (convert 103 9 (.slice (some ⟨W.heap.size, 0, none⟩) k k)).run Tryz.prog (W.alloc (.cells (ns.map (Value.int .u8)).toArray 5)) = .ok (.string ⟨(ns.map fun n => UInt8.ofNat n.toNat).toArray⟩) (W.alloc (.cells (ns.map (Value.int .u8)).toArray 5)) := by
  subst hk
  rw [run_convert_bytes_string _ _ _ _ _ _ _ Tryz.underlying103 Tryz.underlying5 Tryz.underlying9]
  have hl : (loadCells ⟨W.heap.size, 0, none⟩ ns.length).run Tryz.prog (W.alloc (.cells (ns.map (Value.int .u8)).toArray 5)) = .ok (ns.map (Value.int .u8)).toArray (W.alloc (.cells (ns.map (Value.int .u8)).toArray 5)) := by
    have := run_loadCells_list (P := Tryz.prog) (W.alloc (.cells (ns.map (Value.int .u8)).toArray 5)) ⟨W.heap.size, 0, none⟩ (ns.map (Value.int .u8)) (fun j v hv => by
      have hadd : (⟨W.heap.size, 0, none⟩ : Addr).add j = ⟨W.heap.size, j, none⟩ := by unfold Addr.add; split <;> simp_all
      rw [hadd, cell_of_row _ _ j _ _ (0, 0) (heap_alloc_new W _)]
      simpa using hv)
    simpa using this
  rw [run_bytesToString _ _ _ _ ns hl]
  have hf : ∀ (l : List Int) (r : ByteArray), l.foldl (fun r n => r.push (UInt8.ofNat n.toNat)) r = ⟨(r.data.toList ++ l.map fun n => UInt8.ofNat n.toNat).toArray⟩ := by
    intro l
    induction l with
    | nil => intro r; simp
    | cons n l ih => intro r; rw [List.foldl_cons, ih]; simp [ByteArray.push]
  rw [hf]
  simp

namespace W
theorem ofNat_congr {a b : Nat} (h : a = b) : UInt8.ofNat a = UInt8.ofNat b := by rw [h]
theorem charL_bad (c : Int) (h : charOk c = false) : charL c = [] := by unfold charL; rw [h]; rfl
theorem charL_1 (c : Int) (h0 : 0 ≤ c) (h1 : c ≤ 127) : charL c = [UInt8.ofNat c.toNat] := by
  unfold charL charN charB
  rw [if_pos (by simp [charOk]; omega), if_pos (by omega)]; rfl
theorem charL_2 (c : Int) (h0 : 128 ≤ c) (h1 : c ≤ 2047) : charL c = [UInt8.ofNat (192 + c / 64).toNat, UInt8.ofNat (128 + c % 64).toNat] := by
  unfold charL charN charB
  rw [if_pos (by simp [charOk]; omega), if_neg (by omega), if_pos (by omega)]
  simp only [List.map_cons, List.map_nil]
  rw [ofNat_congr (show 192 + c.toNat / 64 = (192 + c / 64).toNat by omega), ofNat_congr (show 128 + c.toNat % 64 = (128 + c % 64).toNat by omega)]
theorem charL_3 (c : Int) (h0 : 2048 ≤ c) (h1 : c ≤ 65535) (h : charOk c = true) : charL c = [UInt8.ofNat (224 + c / 4096).toNat, UInt8.ofNat (128 + c / 64 % 64).toNat, UInt8.ofNat (128 + c % 64).toNat] := by
  unfold charL charN charB
  rw [if_pos h, if_neg (by omega), if_neg (by omega), if_pos (by omega)]
  simp only [List.map_cons, List.map_nil]
  rw [ofNat_congr (show 224 + c.toNat / 4096 = (224 + c / 4096).toNat by omega), ofNat_congr (show 128 + c.toNat / 64 % 64 = (128 + c / 64 % 64).toNat by omega), ofNat_congr (show 128 + c.toNat % 64 = (128 + c % 64).toNat by omega)]
theorem charL_4 (c : Int) (h0 : 65536 ≤ c) (h1 : c ≤ 1114111) : charL c = [UInt8.ofNat (240 + c / 262144).toNat, UInt8.ofNat (128 + c / 4096 % 64).toNat, UInt8.ofNat (128 + c / 64 % 64).toNat, UInt8.ofNat (128 + c % 64).toNat] := by
  unfold charL charN charB
  rw [if_pos (by simp [charOk]; omega), if_neg (by omega), if_neg (by omega), if_neg (by omega)]
  simp only [List.map_cons, List.map_nil]
  rw [ofNat_congr (show 240 + c.toNat / 262144 = (240 + c / 262144).toNat by omega), ofNat_congr (show 128 + c.toNat / 4096 % 64 = (128 + c / 4096 % 64).toNat by omega), ofNat_congr (show 128 + c.toNat / 64 % 64 = (128 + c / 64 % 64).toNat by omega), ofNat_congr (show 128 + c.toNat % 64 = (128 + c % 64).toNat by omega)]
end W
end Go.Proofs.YtakplnceiibmlaaGreatDoor
