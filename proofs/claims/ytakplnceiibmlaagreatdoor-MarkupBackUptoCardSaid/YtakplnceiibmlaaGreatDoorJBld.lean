/- The walk of strings.Builder's WriteRune over this translation: after the shelf's. -/
import Derived.Test.YtakplnceiibmlaaGreatDoorWBuilder
import Derived.Test.YtakplnceiibmlaaGreatDoorShelf
import Derived.Test.YtakplnceiibmlaaGreatDoorJChr
import Derived.Lib.RuneBytes
namespace Go.Proofs.YtakplnceiibmlaaGreatDoor
open Go.RowKit
open Go.Lib (hid)
theorem encodeRune_charL {r : Int} (hok : W.charOk r = true) : Lib.encodeRune r = W.charL r := by
  have h0 : (0 ≤ r ∧ r ≤ 55295) ∨ (57344 ≤ r ∧ r ≤ 1114111) := by simpa only [W.charOk, Bool.or_eq_true, decide_eq_true_eq] using hok
  unfold Lib.encodeRune
  by_cases h1 : r ≤ 127
  · rw [Lib.encodeRuneZ_one (by omega) h1, W.charL_1 r (by omega) h1]; rfl
  · by_cases h2 : r ≤ 2047
    · rw [Lib.encodeRuneZ_two (by omega) h2, W.charL_2 r (by omega) h2]; rfl
    · by_cases h3 : r ≤ 65535
      · rw [Lib.encodeRuneZ_three (by omega), W.charL_3 r (by omega) h3 hok]; rfl
      · rw [Lib.encodeRuneZ_four (by omega) (by omega), W.charL_4 r (by omega) (by omega)]; rfl
set_option maxHeartbeats 4000000 in
set_option maxRecDepth 100000 in
theorem writeRune_cells (B b : Nat) (bs : List Value) (r : Int) (hr0 : -2147483648 ≤ r) (hr1 : r ≤ 2147483647) (w : World) (h : Lib.IsBuilderF 117 5 B b bs w) (hlen : bs.length + 4 ≤ 140737488355328) (hBw : B ≤ w.heap.size) :
    Calls Tryz.prog 61 #[.pointer (some ⟨b, 0, none⟩), .int .i32 r] w fun e w' => e = .returned (.tuple #[.int .i64 (Lib.runeCells r).length, .nilIface]) ∧ (Lib.BuilderAtF 117 5 B b (.pointer (some ⟨b, 0, none⟩)) (bs ++ Lib.runeCells r) w' ∧ Below B w w' ∧ Kept b w w') := by
  have hk4 := Lib.runeCells_le r
  go_enter Tryz.func61, Tryz.ntmps61
  go_wp2_with (go_at_call 75; refine (copyCheck_any B b bs _ h).mono ?_)
  rintro e w1 ⟨rfl, h1, hb1, hk1⟩
  obtain ⟨hB, v, hbk, hown, hne⟩ := h1
  obtain ⟨ao, cap, rfl⟩ : ∃ ao cap, v = .slice ao bs.length cap := by
    rcases hown.2 with ⟨hv, h0⟩ | ⟨g, cap, cur, fz, hv, _⟩
    · exact ⟨none, 0, by rw [hv, h0]⟩
    · exact ⟨_, _, hv⟩
  have c0 : w1.cell? ⟨b, 0, none⟩ = some (.pointer (some ⟨b, 0, none⟩)) := by rw [Lib.cell_of_heap hbk]; rfl
  have c1 : w1.cell? ⟨b, 1, none⟩ = some (.slice ao bs.length cap) := by rw [Lib.cell_of_heap hbk]; rfl
  go_wp2_with (go_at_call 76; refine (Tryz.utf8_AppendRune_row B _ bs.length bs r hr0 hr1 _ hown hlen (by have := hb1.size; omega)).mono ?_)
  rintro e w2 ⟨v', rfl, hown', o, hgrow⟩
  have hlt : b < w1.heap.size := by
    rcases Nat.lt_or_ge b w1.heap.size with h' | h'
    · exact h'
    · simp [Array.getElem?_eq_none h'] at hbk
  have hb2 : w2.heap[b]? = some (.cells #[.pointer (some ⟨b, 0, none⟩), .slice ao bs.length cap] 117 (0, 0)) := by
    rw [hgrow.block b (by simp; omega) (fun e => hne e.symm), Lib.alloc_old w1 _ b hlt]
    exact hbk
  have d0 : w2.cell? ⟨b, 0, none⟩ = some (.pointer (some ⟨b, 0, none⟩)) := by rw [Lib.cell_of_heap hb2]; rfl
  have d1 : w2.cell? ⟨b, 1, none⟩ = some (.slice ao bs.length cap) := by rw [Lib.cell_of_heap hb2]; rfl
  have f1 : w2.frozen? ⟨b, 1, none⟩ = false := Lib.frozen_of_heap hb2 1
  obtain ⟨g, cap', rfl⟩ : ∃ g cap', v' = .slice (some ⟨g, 0, none⟩) (bs.length + (Lib.runeCells r).length) cap' := by
    rcases hown'.2 with ⟨_, h0⟩ | ⟨g, cap', cur, fz, hv, _⟩
    · omega
    · exact ⟨g, cap', hv⟩
  go_wp2
  go_ret2
  refine ⟨?_, ?_, ?_, ((hk1.alloc _).grown hgrow (Lib.ownsRowF_kind (hown.alloc _))).setCell ⟨b, 1, none⟩ rfl _⟩
  · have e : ((bs.length : Int) + ((Lib.runeCells r).length : Int) - (bs.length : Int)) = ((Lib.runeCells r).length : Int) := by omega
    simp [e]
  · exact Lib.BuilderAtF.put (T := 117) (e := 5) hB hb2 (bs' := bs ++ Lib.runeCells r) (by simpa using hown') (by decide)
  · exact ((hb1.alloc (by have := hb1.size; omega) _).grown hgrow (by have := hb1.size; simp; omega) (fun k hk => (hown.lt k hk).1)).setCell (p := ⟨b, 1, none⟩) hB _
theorem writeRune_any (B b : Nat) (l : List UInt8) (r : Int) (hok : W.charOk r = true) (w : World) (h : Holds B b l w) (hlen : l.length + 4 ≤ 140737488355328) (hBw : B ≤ w.heap.size) :
    Calls Tryz.prog 61 #[.pointer (some ⟨b, 0, none⟩), .int .i32 r] w fun e w' => (∃ n : Int, e = .returned (.tuple #[.int .i64 n, .nilIface])) ∧ Holds B b (l ++ W.charL r) w' ∧ Below B w w' ∧ Kept b w w' := by
  have h0 : (0 ≤ r ∧ r ≤ 55295) ∨ (57344 ≤ r ∧ r ≤ 1114111) := by simpa only [W.charOk, Bool.or_eq_true, decide_eq_true_eq] using hok
  refine (writeRune_cells B b _ r (by omega) (by omega) w h (by rw [Lib.byteCells_length]; exact hlen) hBw).mono ?_
  rintro e w' ⟨rfl, h1, h2, h3⟩
  refine ⟨⟨_, rfl⟩, Or.inr ?_, h2, h3⟩
  rw [Lib.byteCells_append, ← encodeRune_charL hok, Lib.byteCells_encodeRune]; exact h1
theorem atF_grown {T e : TypeId} {B b R : Nat} {p : Value} {bs : List Value} {W W' : World} (h : Lib.BuilderAtF T e B b p bs W) (hg : W.grownBy W' (some R)) (hR : R < B) : Lib.BuilderAtF T e B b p bs W' := by
  have hlt := h.lt
  obtain ⟨hB, v, hv, hown, hne⟩ := h
  exact ⟨hB, v, (hg.block b hlt (fun e => by have := Option.some.inj e; omega)).trans hv, hown.kept hg (Or.inr fun e => by have := (hown.lt R e).1; omega), hne⟩
/-- whatever happens to a block ahead of it, a builder holds what it did -/
theorem Holds.grown {B b R : Nat} {l : List UInt8} {W W' : World} (h : Holds B b l W) (hg : W.grownBy W' (some R)) (hR : R < B) : Holds B b l W' := h.elim (fun x => .inl (atF_grown x hg hR)) (fun x => .inr (atF_grown x hg hR))
theorem Holds.lt {B b : Nat} {l : List UInt8} {w : World} (h : Holds B b l w) : b < w.heap.size := by
  rcases h with h | h
  · exact h.lt
  · exact h.lt
theorem atF_after {T e : TypeId} {B b : Nat} {p : Value} {bs : List Value} {W W' : World} (h : Lib.BuilderAtF T e B b p bs W) (hb : Below W.heap.size W W') : Lib.BuilderAtF T e B b p bs W' := by
  have hlt := h.lt
  obtain ⟨hB, v, hv, hown, hne⟩ := h
  exact ⟨hB, v, (hb.block b hlt).trans hv, hown.kept (row := none) ⟨hb.os, hb.tape, hb.output, hb.size, fun k hk _ => hb.block k hk⟩ (Classical.em _), hne⟩
theorem Holds.after {B b : Nat} {l : List UInt8} {w w' : World} (h : Holds B b l w) (hb : Below w.heap.size w w') : Holds B b l w' := h.elim (fun x => .inl (atF_after x hb)) (fun x => .inr (atF_after x hb))
theorem Holds.bw {B b : Nat} {l : List UInt8} {w : World} (h : Holds B b l w) : B ≤ w.heap.size := by
  have h1 := h.lt
  rcases h with h | h
  · have := h.1; omega
  · have := h.1; omega
end Go.Proofs.YtakplnceiibmlaaGreatDoor
