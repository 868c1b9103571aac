/- Rows of bytes of a call's own: what holds of them under growth, and their string. -/
import Derived.Test.YtfadnhihcobclaaDoorProg
import Derived.WalkKit
import Derived.Below
import Derived.Laws.BytesString
import Derived.Lib.Hide
import Derived.Lib.AppendStr
import Derived.Lib.Strings
import Derived.Lib.UnsafeStr
namespace Go.Proofs.YtfadnhihcobclaaDoor
open Go.RowKit
open Go.Lib (hid)

theorem infoByte : (Tryd.prog.info? 5).map (fun i => (i.zero, i.size, i.bytes)) = some (some (.int .u8 0), 1, 1) := by kernel_rfl
/-- a slice of the call's own (blocks from B on) that holds these bytes -/
def Row (B : Nat) (l : List UInt8) (v : Value) (w : World) : Prop := w.ownsRow B 5 1 v l.length (Lib.byteCells l)
theorem Row.nil (B : Nat) (w : World) : Row B [] (.slice none 0 0) w := ⟨rfl, Or.inl ⟨rfl, rfl⟩⟩
theorem Row.below {B : Nat} {l : List UInt8} {v : Value} {w w' : World} (h : Row B l v w) (hb : Below w.heap.size w w') : Row B l v w' :=
  World.ownsRow.kept (row := none) h ⟨hb.os, hb.tape, hb.output, hb.size, fun k hk _ => hb.block k hk⟩ (Classical.em _)
theorem Row.new (w : World) (c : UInt8) : Row w.heap.size [c] (.slice (some ⟨w.heap.size, 0, none⟩) 1 1) (w.alloc (.cells #[.int .u8 c.toNat] 5)) :=
  ⟨rfl, Or.inr ⟨_, 1, _, rfl, Nat.le_refl _, heap_alloc_new w _, Nat.le_refl _, by decide, rfl, rfl⟩⟩
theorem foldl_push : ∀ (l : List Int) (r : ByteArray), l.foldl (fun r n => r.push (UInt8.ofNat n.toNat)) r = ⟨(r.data.toList ++ l.map fun n => UInt8.ofNat n.toNat).toArray⟩ := by
  intro l
  induction l with
  | nil => intro r; simp
  | cons n l ih => intro r; rw [List.foldl_cons, ih]; simp [ByteArray.push]
/-- 'string(out)' -/
theorem Row.conv {B : Nat} {l : List UInt8} {v : Value} {w : World} (h : Row B l v w) : (convert 63 9 v).run Tryd.prog w = .ok (.string ⟨l.toArray⟩) w := by
  have hcells := fun g (hg : v.ownBlock = some g) => World.ownsRow.cells h hg
  rcases h.2 with ⟨rfl, h0⟩ | ⟨g, cap, cur, rfl, _⟩
  · have : l = [] := List.eq_nil_of_length_eq_zero h0
    subst this
    rw [run_convert_bytes_string _ _ _ _ _ _ _ Tryd.underlying63 Tryd.underlying5 Tryd.underlying9]
    rfl
  · rw [run_convert_bytes_string _ _ _ _ _ _ _ Tryd.underlying63 Tryd.underlying5 Tryd.underlying9]
    have hm : (l.map fun c => (c.toNat : Int)).map (Value.int .u8) = Lib.byteCells l := by
      unfold Lib.byteCells; simp
    have hl : (loadCells ⟨g, 0, none⟩ l.length).run Tryd.prog w = .ok ((l.map fun c => (c.toNat : Int)).map (Value.int .u8)).toArray w := by
      have := run_loadCells_list (P := Tryd.prog) w ⟨g, 0, none⟩ ((l.map fun c => (c.toNat : Int)).map (Value.int .u8)) (fun j u hu => by
        rw [hm] at hu; exact hcells g rfl j u hu)
      simpa using this
    rw [run_bytesToString _ _ _ _ _ hl, foldl_push]
    have hid' : (l.map fun c => (c.toNat : Int)).map (fun n => UInt8.ofNat n.toNat) = l := by
      rw [List.map_map]
      conv => rhs; rw [← List.map_id l]
      refine List.map_congr_left (fun c _ => ?_)
      simp
    rw [hid']
    simp

theorem Row.of_append {B : Nat} {l q : List UInt8} {v : Value} {w : World} (h : w.ownsRow B 5 1 v (l.length + q.length) (Lib.byteCells l ++ Lib.strCells ⟨q.toArray⟩)) : Row B (l ++ q) v w := by
  unfold Row
  rw [List.length_append, Lib.byteCells_append]
  exact h
theorem Row.of_push {B : Nat} {l : List UInt8} {c : UInt8} {v : Value} {w : World} (h : w.ownsRow B 5 1 v (l.length + 1) (Lib.byteCells l ++ [.int .u8 c.toNat])) : Row B (l ++ [c]) v w := by
  unfold Row
  rw [List.length_append, Lib.byteCells_append]
  exact h

end Go.Proofs.YtfadnhihcobclaaDoor
