/- Builders; made values; escapes. -/
import Derived.Test.YtphjfighamadgaaGreatDoorShelfB
import Derived.WalkKit
import Derived.Lib.FrozenHead2
import Derived.Lib.OthersKept
import Derived.Lib.AppendStr
import Derived.Lib.Hide
import Derived.Test.YtphjfighamadgaaGreatDoorShelf
import Derived.Test.YtphjfighamadgaaGreatDoorJA2
import Derived.Lib.RuneBytes
import Derived.Test.YtphjfighamadgaaGreatDoorJA4
import Derived.Deep.WholeRow
namespace Go.Proofs.YtphjfighamadgaaGreatDoor
open Go.RowKit
open Go.Lib (hid)

theorem sizeBuilder : (Tryz.prog.info? 69).map (·.size) = some 2 := by kernel_rfl
theorem liesBuilder : liesAt Tryz.prog Tryz.prog.depth 69 (2 / Tryz.prog.cellsOf 69) 0 69 1 = true := by kernel_rfl
theorem infoByte : (Tryz.prog.info? 5).map (fun i => (i.zero, i.size, i.bytes)) = some (some (.int .u8 0), 1, 1) := by kernel_rfl

set_option maxHeartbeats 1000000 in
set_option maxRecDepth 100000 in
theorem copyCheck_used (b : Nat) (w : World) (h0 : w.cell? ⟨b, 0, none⟩ = some (.pointer (some ⟨b, 0, none⟩))) :
    Calls Tryz.prog 79 #[.pointer (some ⟨b, 0, none⟩)] w fun e w' => e = .returned (.tuple #[]) ∧ w' = w := by
  obtain ⟨j, hj, _⟩ := Option.map_eq_some_iff.1 sizeBuilder
  go_enter Tryz.func79, Tryz.ntmps79
  go_wp2
  rw [Lib.run_neq_ptr_same w _ Tryz.underlying66 hj]
  go_wp2
  go_end0
  exact ⟨rfl, rfl⟩

set_option maxHeartbeats 1000000 in
set_option maxRecDepth 100000 in
theorem copyCheck_fresh (b : Nat) (w : World) (h0 : w.cell? ⟨b, 0, none⟩ = some (.pointer none)) (hsh : w.shape? b = some (69, 2)) (hfz : w.frozen? ⟨b, 0, none⟩ = false) :
    Calls Tryz.prog 79 #[.pointer (some ⟨b, 0, none⟩)] w fun e w' => e = .returned (.tuple #[]) ∧ w' = w.setCell ⟨b, 0, none⟩ (.pointer (some ⟨b, 0, none⟩)) := by
  obtain ⟨j, hj, hjs⟩ := Option.map_eq_some_iff.1 sizeBuilder
  go_enter Tryz.func79, Tryz.ntmps79
  go_wp2
  rw [Lib.run_to_unsafe w ⟨b, 0, none⟩ Tryz.underlying66 Tryz.underlying127 hj (by rw [hjs]; decide) hsh (Nat.zero_lt_succ 1)]
  simp only [Result.andThen]
  rw [Oper.upon_value]
  go_wp2
  rw [run_callFunc_extern Tryz.func95 (by kernel_rfl) (by kernel_rfl) (by kernel_rfl) (e := Extern.AbiNoEscape.same) (by kernel_rfl)]
  rw [Lib.run_noEscape]
  simp only [Result.andThen]
  rw [Oper.upon_value]
  go_wp2
  rw [Lib.run_from_unsafe w ⟨b, 0, none⟩ Tryz.underlying127 Tryz.underlying66 hj hsh liesBuilder]
  simp only [Result.andThen]
  rw [Oper.upon_value]
  go_wp2
  go_end0
  exact ⟨rfl, rfl⟩

/-- a builder of the call's own: block b, from B on, holding these bytes -/
def Holds (B b : Nat) (l : List UInt8) (w : World) : Prop := Lib.IsBuilderF 69 5 B b (Lib.byteCells l) w
/-- all blocks but the builder's and rows of bytes stand -/
def Kept (b : Nat) (w w' : World) : Prop := Lib.OthersKept 5 (some b) w w'

theorem copyCheck_any (B b : Nat) (bs : List Value) (w : World) (h : Lib.IsBuilderF 69 5 B b bs w) :
    Calls Tryz.prog 79 #[.pointer (some ⟨b, 0, none⟩)] w fun e w' => e = .returned (.tuple #[]) ∧ (Lib.BuilderAtF 69 5 B b (.pointer (some ⟨b, 0, none⟩)) bs w' ∧ Below B w w' ∧ Kept b w w') := by
  rcases h with h | h
  · refine (copyCheck_fresh b w h.cell0 h.shape h.frozen0).mono ?_
    rintro e w' ⟨rfl, rfl⟩
    exact ⟨rfl, h.used _, (Below.refl B w).setCell (p := ⟨b, 0, none⟩) h.1 _, (Lib.OthersKept.refl _ _ w).setCell ⟨b, 0, none⟩ rfl _⟩
  · refine (copyCheck_used b w h.cell0).mono ?_
    rintro e w' ⟨rfl, rfl⟩
    exact ⟨rfl, h, Below.refl B _, Lib.OthersKept.refl _ _ _⟩

set_option maxHeartbeats 2000000 in
set_option maxRecDepth 100000 in
theorem writeByte_cells (B b : Nat) (bs : List Value) (c : Int) (w : World) (h : Lib.IsBuilderF 69 5 B b bs w) (hlen : bs.length + 1 ≤ 140737488355328) (hBw : B ≤ w.heap.size) :
    Calls Tryz.prog 60 #[.pointer (some ⟨b, 0, none⟩), .int .u8 c] w fun e w' => e = .returned .nilIface ∧ (Lib.BuilderAtF 69 5 B b (.pointer (some ⟨b, 0, none⟩)) (bs ++ [.int .u8 c]) w' ∧ Below B w w' ∧ Kept b w w') := by
  obtain ⟨i0, hi, hz0, hz1, hz2⟩ := info_parts infoByte
  go_enter Tryz.func60, Tryz.ntmps60
  go_wp2_with (go_at_call 79; refine (copyCheck_any B b bs _ h).mono ?_)
  rintro e w1 ⟨rfl, h1, hb1, hk1⟩
  obtain ⟨hB, v, hbk, hown, hne⟩ := h1
  have c0 : w1.cell? ⟨b, 0, none⟩ = some (.pointer (some ⟨b, 0, none⟩)) := by rw [Lib.cell_of_heap hbk]; rfl
  have c1 : w1.cell? ⟨b, 1, none⟩ = some v := by rw [Lib.cell_of_heap hbk]; rfl
  go_wp2_with (at_builtin; refine wpList_append_ownF _ rfl _ _ 67 rfl B 5 i0 (.int .u8 0) 1 1 Tryz.underlying67 hi hz0 hz1 hz2 rfl (by decide) _ _ _ rfl (hown.alloc _) ⟨w1.heap.size, 0, none⟩ 1 1 [.int .u8 c] rfl rfl ?c1 ?c2 ?c3 ?c4 ?c5 ?_)
  case c1 =>
    intro j u hj
    match j, hj with
    | 0, hj => simp at hj; subst hj; simp [Addr.add]
  case c2 => intro u hu; simp at hu; subst hu; rfl
  case c3 => unfold maxLen; omega
  case c4 => omega
  case c5 => have := hb1.size; simp; omega
  intro v' w2 hown' hgrow _
  have hlt : b < w1.heap.size := by
    rcases Nat.lt_or_ge b w1.heap.size with h' | h'
    · exact h'
    · simp [Array.getElem?_eq_none h'] at hbk
  have hb2 : w2.heap[b]? = some (.cells #[.pointer (some ⟨b, 0, none⟩), v] 69 (0, 0)) := by
    rw [hgrow.block b (by simp; omega) (fun e => hne e.symm), Lib.alloc_old w1 _ b hlt]
    exact hbk
  have d0 : w2.cell? ⟨b, 0, none⟩ = some (.pointer (some ⟨b, 0, none⟩)) := by rw [Lib.cell_of_heap hb2]; rfl
  have d1 : w2.cell? ⟨b, 1, none⟩ = some v := by rw [Lib.cell_of_heap hb2]; rfl
  have f1 : w2.frozen? ⟨b, 1, none⟩ = false := Lib.frozen_of_heap hb2 1
  obtain ⟨g, cap, rfl⟩ : ∃ g cap, v' = .slice (some ⟨g, 0, none⟩) (bs.length + 1) cap := by
    rcases hown'.2 with ⟨_, h0⟩ | ⟨g, cap, cur, fz, hv, _⟩
    · omega
    · exact ⟨g, cap, hv⟩
  go_wp2
  go_ret
  refine ⟨rfl, ?_, ?_, ((hk1.alloc _).grown hgrow (Lib.ownsRowF_kind (hown.alloc _))).setCell ⟨b, 1, none⟩ rfl _⟩
  · exact Lib.BuilderAtF.put (T := 69) (e := 5) hB hb2 (bs' := bs ++ [.int .u8 c]) (by simpa using hown') (by decide)
  · exact ((hb1.alloc (by have := hb1.size; omega) _).grown hgrow (by have := hb1.size; simp; omega) (fun k hk => (hown.lt k hk).1)).setCell (p := ⟨b, 1, none⟩) hB _

set_option maxHeartbeats 2000000 in
set_option maxRecDepth 100000 in
theorem writeString_cells (B b : Nat) (bs : List Value) (s : ByteArray) (w : World) (h : Lib.IsBuilderF 69 5 B b bs w) (hlen : bs.length + s.size ≤ 140737488355328) (hBw : B ≤ w.heap.size) :
    Calls Tryz.prog 57 #[.pointer (some ⟨b, 0, none⟩), .string s] w fun e w' => e = .returned (.tuple #[.int .i64 s.size, .nilIface]) ∧ (Lib.BuilderAtF 69 5 B b (.pointer (some ⟨b, 0, none⟩)) (bs ++ Lib.strCells s) w' ∧ Below B w w' ∧ Kept b w w') := by
  obtain ⟨i0, hi, hz0, hz1, hz2⟩ := info_parts infoByte
  go_enter Tryz.func57, Tryz.ntmps57
  go_wp2_with (go_at_call 79; refine (copyCheck_any B b bs _ h).mono ?_)
  rintro e w1 ⟨rfl, h1, hb1, hk1⟩
  obtain ⟨hB, v, hbk, hown, hne⟩ := h1
  have c0 : w1.cell? ⟨b, 0, none⟩ = some (.pointer (some ⟨b, 0, none⟩)) := by rw [Lib.cell_of_heap hbk]; rfl
  have c1 : w1.cell? ⟨b, 1, none⟩ = some v := by rw [Lib.cell_of_heap hbk]; rfl
  go_wp2_with (at_builtin; refine Lib.wpList_append_own_stringF _ rfl _ _ 67 9 rfl B 5 i0 Tryz.underlying67 Tryz.underlying9 hi hz0 hz1 hz2 _ _ _ rfl hown s rfl ?c3 ?c4 ?c5 ?_)
  case c3 => unfold maxLen; omega
  case c4 => omega
  case c5 => have := hb1.size; omega
  intro v' w2 hown' hgrow _
  have hlt : b < w1.heap.size := by
    rcases Nat.lt_or_ge b w1.heap.size with h' | h'
    · exact h'
    · simp [Array.getElem?_eq_none h'] at hbk
  have hb2 : w2.heap[b]? = some (.cells #[.pointer (some ⟨b, 0, none⟩), v] 69 (0, 0)) := by
    rw [hgrow.block b hlt (fun e => hne e.symm)]
    exact hbk
  have d0 : w2.cell? ⟨b, 0, none⟩ = some (.pointer (some ⟨b, 0, none⟩)) := by rw [Lib.cell_of_heap hb2]; rfl
  have d1 : w2.cell? ⟨b, 1, none⟩ = some v := by rw [Lib.cell_of_heap hb2]; rfl
  have f1 : w2.frozen? ⟨b, 1, none⟩ = false := Lib.frozen_of_heap hb2 1
  obtain ⟨ao, n', cap, rfl⟩ : ∃ ao n' cap, v' = .slice ao n' cap := by
    rcases hown'.2 with ⟨hv, _⟩ | ⟨g, cap, cur, fz, hv, _⟩
    · exact ⟨_, _, _, hv⟩
    · exact ⟨_, _, _, hv⟩
  go_wp2
  go_ret2
  refine ⟨rfl, ?_, ?_, (hk1.grown hgrow (Lib.ownsRowF_kind hown)).setCell ⟨b, 1, none⟩ rfl _⟩
  · exact Lib.BuilderAtF.put (T := 69) (e := 5) hB hb2 (bs' := bs ++ Lib.strCells s) (by simpa [Lib.strCells_length] using hown') (by decide)
  · exact (hb1.grown hgrow (by have := hb1.size; omega) (fun k hk => (hown.lt k hk).1)).setCell (p := ⟨b, 1, none⟩) hB _

theorem writeByte_any (B b : Nat) (l : List UInt8) (c : UInt8) (w : World) (h : Holds B b l w) (hlen : l.length + 1 ≤ 140737488355328) (hBw : B ≤ w.heap.size) :
    Calls Tryz.prog 60 #[.pointer (some ⟨b, 0, none⟩), .int .u8 c.toNat] w fun e w' => e = .returned .nilIface ∧ Holds B b (l ++ [c]) w' ∧ Below B w w' ∧ Kept b w w' := by
  refine (writeByte_cells B b _ c.toNat w h (by rw [Lib.byteCells_length]; exact hlen) hBw).mono ?_
  rintro e w' ⟨rfl, h1, h2, h3⟩
  refine ⟨rfl, Or.inr ?_, h2, h3⟩
  rw [Lib.byteCells_append]; exact h1
theorem writeString_any (B b : Nat) (l : List UInt8) (s : ByteArray) (w : World) (h : Holds B b l w) (hlen : l.length + s.size ≤ 140737488355328) (hBw : B ≤ w.heap.size) :
    Calls Tryz.prog 57 #[.pointer (some ⟨b, 0, none⟩), .string s] w fun e w' => e = .returned (.tuple #[.int .i64 s.size, .nilIface]) ∧ Holds B b (l ++ s.data.toList) w' ∧ Below B w w' ∧ Kept b w w' := by
  refine (writeString_cells B b _ s w h (by rw [Lib.byteCells_length]; exact hlen) hBw).mono ?_
  rintro e w' ⟨rfl, h1, h2, h3⟩
  refine ⟨rfl, Or.inr ?_, h2, h3⟩
  rw [Lib.byteCells_append]; exact h1
theorem string_any (B b : Nat) (l : List UInt8) (w : World) (h : Holds B b l w) (hBw : B ≤ w.heap.size) :
    Calls Tryz.prog 36 #[.pointer (some ⟨b, 0, none⟩)] w fun e w' => e = .returned (.string ⟨l.toArray⟩) ∧ Holds B b l w' ∧ Below B w w' ∧ Kept b w w' :=
  Tryz.Builder_String_any_k B b l w h hBw
theorem holds_fresh (w : World) : Holds w.heap.size w.heap.size [] (w.alloc (.cells #[.pointer none, .slice none 0 0] 69)) := Lib.IsBuilderF.of (Lib.fresh_isBuilder _ _ w)
end Go.Proofs.YtphjfighamadgaaGreatDoor
namespace Go.Proofs.YtphjfighamadgaaGreatDoor
open Go.RowKit
open Go.Lib (hid)
theorem encodeRune_charL {r : Int} (hok : W.charOk r = true) : Lib.encodeRune r = W.charL r := by
  have h0 : (0 ≤ r ∧ r ≤ 55295) ∨ (57344 ≤ r ∧ r ≤ 1114111) := by simpa only [W.charOk, Bool.or_eq_true, decide_eq_true_eq] using hok
  unfold Lib.encodeRune
  by_cases h1 : r ≤ 127
  · rw [Lib.encodeRuneZ_one (by omega) h1, W.charL_1 r (by omega) h1]; rfl
  · by_cases h2 : r ≤ 2047
    · rw [Lib.encodeRuneZ_two (by omega) h2, W.charL_2 r (by omega) h2]; rfl
    · by_cases h3 : r ≤ 65535
      · rw [Lib.encodeRuneZ_three (by omega), W.charL_3 r (by omega) h3 hok]; rfl
      · rw [Lib.encodeRuneZ_four (by omega) (by omega), W.charL_4 r (by omega) (by omega)]; rfl
set_option maxHeartbeats 4000000 in
set_option maxRecDepth 100000 in
theorem writeRune_cells (B b : Nat) (bs : List Value) (r : Int) (hr0 : -2147483648 ≤ r) (hr1 : r ≤ 2147483647) (w : World) (h : Lib.IsBuilderF 69 5 B b bs w) (hlen : bs.length + 4 ≤ 140737488355328) (hBw : B ≤ w.heap.size) :
    Calls Tryz.prog 70 #[.pointer (some ⟨b, 0, none⟩), .int .i32 r] w fun e w' => e = .returned (.tuple #[.int .i64 (Lib.runeCells r).length, .nilIface]) ∧ (Lib.BuilderAtF 69 5 B b (.pointer (some ⟨b, 0, none⟩)) (bs ++ Lib.runeCells r) w' ∧ Below B w w' ∧ Kept b w w') := by
  have hk4 := Lib.runeCells_le r
  go_enter Tryz.func70, Tryz.ntmps70
  go_wp2_with (go_at_call 79; refine (copyCheck_any B b bs _ h).mono ?_)
  rintro e w1 ⟨rfl, h1, hb1, hk1⟩
  obtain ⟨hB, v, hbk, hown, hne⟩ := h1
  obtain ⟨ao, cap, rfl⟩ : ∃ ao cap, v = .slice ao bs.length cap := by
    rcases hown.2 with ⟨hv, h0⟩ | ⟨g, cap, cur, fz, hv, _⟩
    · exact ⟨none, 0, by rw [hv, h0]⟩
    · exact ⟨_, _, hv⟩
  have c0 : w1.cell? ⟨b, 0, none⟩ = some (.pointer (some ⟨b, 0, none⟩)) := by rw [Lib.cell_of_heap hbk]; rfl
  have c1 : w1.cell? ⟨b, 1, none⟩ = some (.slice ao bs.length cap) := by rw [Lib.cell_of_heap hbk]; rfl
  go_wp2_with (go_at_call 90; refine (Tryz.utf8_AppendRune_row B _ bs.length bs r hr0 hr1 _ hown hlen (by have := hb1.size; omega)).mono ?_)
  rintro e w2 ⟨v', rfl, hown', o, hgrow⟩
  have hlt : b < w1.heap.size := by
    rcases Nat.lt_or_ge b w1.heap.size with h' | h'
    · exact h'
    · simp [Array.getElem?_eq_none h'] at hbk
  have hb2 : w2.heap[b]? = some (.cells #[.pointer (some ⟨b, 0, none⟩), .slice ao bs.length cap] 69 (0, 0)) := by
    rw [hgrow.block b (by simp; omega) (fun e => hne e.symm), Lib.alloc_old w1 _ b hlt]
    exact hbk
  have d0 : w2.cell? ⟨b, 0, none⟩ = some (.pointer (some ⟨b, 0, none⟩)) := by rw [Lib.cell_of_heap hb2]; rfl
  have d1 : w2.cell? ⟨b, 1, none⟩ = some (.slice ao bs.length cap) := by rw [Lib.cell_of_heap hb2]; rfl
  have f1 : w2.frozen? ⟨b, 1, none⟩ = false := Lib.frozen_of_heap hb2 1
  obtain ⟨g, cap', rfl⟩ : ∃ g cap', v' = .slice (some ⟨g, 0, none⟩) (bs.length + (Lib.runeCells r).length) cap' := by
    rcases hown'.2 with ⟨_, h0⟩ | ⟨g, cap', cur, fz, hv, _⟩
    · omega
    · exact ⟨g, cap', hv⟩
  go_wp2
  go_ret2
  refine ⟨?_, ?_, ?_, ((hk1.alloc _).grown hgrow (Lib.ownsRowF_kind (hown.alloc _))).setCell ⟨b, 1, none⟩ rfl _⟩
  · have e : ((bs.length : Int) + ((Lib.runeCells r).length : Int) - (bs.length : Int)) = ((Lib.runeCells r).length : Int) := by omega
    simp [e]
  · exact Lib.BuilderAtF.put (T := 69) (e := 5) hB hb2 (bs' := bs ++ Lib.runeCells r) (by simpa using hown') (by decide)
  · exact ((hb1.alloc (by have := hb1.size; omega) _).grown hgrow (by have := hb1.size; simp; omega) (fun k hk => (hown.lt k hk).1)).setCell (p := ⟨b, 1, none⟩) hB _
theorem writeRune_any (B b : Nat) (l : List UInt8) (r : Int) (hok : W.charOk r = true) (w : World) (h : Holds B b l w) (hlen : l.length + 4 ≤ 140737488355328) (hBw : B ≤ w.heap.size) :
    Calls Tryz.prog 70 #[.pointer (some ⟨b, 0, none⟩), .int .i32 r] w fun e w' => (∃ n : Int, e = .returned (.tuple #[.int .i64 n, .nilIface])) ∧ Holds B b (l ++ W.charL r) w' ∧ Below B w w' ∧ Kept b w w' := by
  have h0 : (0 ≤ r ∧ r ≤ 55295) ∨ (57344 ≤ r ∧ r ≤ 1114111) := by simpa only [W.charOk, Bool.or_eq_true, decide_eq_true_eq] using hok
  refine (writeRune_cells B b _ r (by omega) (by omega) w h (by rw [Lib.byteCells_length]; exact hlen) hBw).mono ?_
  rintro e w' ⟨rfl, h1, h2, h3⟩
  refine ⟨⟨_, rfl⟩, Or.inr ?_, h2, h3⟩
  rw [Lib.byteCells_append, ← encodeRune_charL hok, Lib.byteCells_encodeRune]; exact h1
theorem atF_grown {T e : TypeId} {B b R : Nat} {p : Value} {bs : List Value} {W W' : World} (h : Lib.BuilderAtF T e B b p bs W) (hg : W.grownBy W' (some R)) (hR : R < B) : Lib.BuilderAtF T e B b p bs W' := by
  have hlt := h.lt
  obtain ⟨hB, v, hv, hown, hne⟩ := h
  exact ⟨hB, v, (hg.block b hlt (fun e => by have := Option.some.inj e; omega)).trans hv, hown.kept hg (Or.inr fun e => by have := (hown.lt R e).1; omega), hne⟩
/-- whatever happens to a block ahead of it, a builder holds what it did -/
theorem Holds.grown {B b R : Nat} {l : List UInt8} {W W' : World} (h : Holds B b l W) (hg : W.grownBy W' (some R)) (hR : R < B) : Holds B b l W' := h.elim (fun x => .inl (atF_grown x hg hR)) (fun x => .inr (atF_grown x hg hR))
theorem Holds.lt {B b : Nat} {l : List UInt8} {w : World} (h : Holds B b l w) : b < w.heap.size := by
  rcases h with h | h
  · exact h.lt
  · exact h.lt
theorem atF_after {T e : TypeId} {B b : Nat} {p : Value} {bs : List Value} {W W' : World} (h : Lib.BuilderAtF T e B b p bs W) (hb : Below W.heap.size W W') : Lib.BuilderAtF T e B b p bs W' := by
  have hlt := h.lt
  obtain ⟨hB, v, hv, hown, hne⟩ := h
  exact ⟨hB, v, (hb.block b hlt).trans hv, hown.kept (row := none) ⟨hb.os, hb.tape, hb.output, hb.size, fun k hk _ => hb.block k hk⟩ (Classical.em _), hne⟩
theorem Holds.after {B b : Nat} {l : List UInt8} {w w' : World} (h : Holds B b l w) (hb : Below w.heap.size w w') : Holds B b l w' := h.elim (fun x => .inl (atF_after x hb)) (fun x => .inr (atF_after x hb))
theorem Holds.bw {B b : Nat} {l : List UInt8} {w : World} (h : Holds B b l w) : B ≤ w.heap.size := by
  have h1 := h.lt
  rcases h with h | h
  · have := h.1; omega
  · have := h.1; omega
end Go.Proofs.YtphjfighamadgaaGreatDoor
namespace Go.Proofs.YtphjfighamadgaaGreatDoor
open Go.RowKit
open Go.Lib (hid)
theorem infoJSON : (Tryz.prog.info? 25).map (·.size) = some 6 := by kernel_rfl
theorem null_any (w : World) : Calls Tryz.prog 20 #[] w fun e w' => e = .returned (.agg #[.int .u8 1, .bool false, .int .i64 0, .string ⟨#[]⟩, .slice none 0 0, .slice none 0 0]) ∧ Below w.heap.size w w' := by
  go_enter Tryz.func20, Tryz.ntmps20
  go_wp2
  exact bodyPost_ret (v := .agg #[.int .u8 1, .bool false, .int .i64 0, .string ⟨#[]⟩, .slice none 0 0, .slice none 0 0]) (results_cell_row rfl _ _ w.heap.size 25 _ (0, 0) _ rfl (heap_alloc_new w _) Tryz.underlying25 rfl infoJSON) rfl ⟨rfl, (Below.refl _ w).alloc (Nat.le_refl _) _⟩
theorem yes_any (b : Bool) (w : World) : Calls Tryz.prog 21 #[.bool b] w fun e w' => e = .returned (.agg #[.int .u8 2, .bool b, .int .i64 0, .string ⟨#[]⟩, .slice none 0 0, .slice none 0 0]) ∧ Below w.heap.size w w' := by
  go_enter Tryz.func21, Tryz.ntmps21
  go_wp2
  exact bodyPost_ret (v := .agg #[.int .u8 2, .bool b, .int .i64 0, .string ⟨#[]⟩, .slice none 0 0, .slice none 0 0]) (results_cell_row rfl _ _ w.heap.size 25 _ (0, 0) _ rfl (heap_alloc_new w _) Tryz.underlying25 rfl infoJSON) rfl ⟨rfl, (Below.refl _ w).alloc (Nat.le_refl _) _⟩
theorem int_any (n : Int) (w : World) : Calls Tryz.prog 22 #[.int .i64 n] w fun e w' => e = .returned (.agg #[.int .u8 3, .bool false, .int .i64 n, .string ⟨#[]⟩, .slice none 0 0, .slice none 0 0]) ∧ Below w.heap.size w w' := by
  go_enter Tryz.func22, Tryz.ntmps22
  go_wp2
  exact bodyPost_ret (v := .agg #[.int .u8 3, .bool false, .int .i64 n, .string ⟨#[]⟩, .slice none 0 0, .slice none 0 0]) (results_cell_row rfl _ _ w.heap.size 25 _ (0, 0) _ rfl (heap_alloc_new w _) Tryz.underlying25 rfl infoJSON) rfl ⟨rfl, (Below.refl _ w).alloc (Nat.le_refl _) _⟩
theorem str_any (s : ByteArray) (w : World) : Calls Tryz.prog 14 #[.string s] w fun e w' => e = .returned (.agg #[.int .u8 4, .bool false, .int .i64 0, .string s, .slice none 0 0, .slice none 0 0]) ∧ Below w.heap.size w w' := by
  go_enter Tryz.func14, Tryz.ntmps14
  go_wp2
  exact bodyPost_ret (v := .agg #[.int .u8 4, .bool false, .int .i64 0, .string s, .slice none 0 0, .slice none 0 0]) (results_cell_row rfl _ _ w.heap.size 25 _ (0, 0) _ rfl (heap_alloc_new w _) Tryz.underlying25 rfl infoJSON) rfl ⟨rfl, (Below.refl _ w).alloc (Nat.le_refl _) _⟩
theorem half_any (c f : Int) (w : World) (hf : 0 ≤ f) (hf' : f ≤ 1000000) : Calls Tryz.prog 89 #[.int .i32 c, .int .i32 f] w fun e w' => e = .returned (.bool (decide (f ≤ c) && decide (c < f + 1024))) ∧ w' = w := by
  by_cases h : f ≤ c
  · have d0 : decide (f ≤ c) = true := decide_eq_true h
    obtain ⟨z, hz⟩ : ∃ z, decide (c < f + 1024) = z := ⟨_, rfl⟩
    rw [d0, hz, Bool.true_and]
    go_enter Tryz.func89, Tryz.ntmps89
    go_wp2_with fail
    go_ret
    exact ⟨rfl, rfl⟩
  · have d0 : decide (f ≤ c) = false := decide_eq_false h
    rw [d0, Bool.false_and]
    go_enter Tryz.func89, Tryz.ntmps89
    go_wp2_with fail
    go_ret
    exact ⟨rfl, rfl⟩
end Go.Proofs.YtphjfighamadgaaGreatDoor
namespace Go.Proofs.YtphjfighamadgaaGreatDoor
open Go.RowKit
open Go.Lib (hid)
/-- how escaped ends: the builder has what was read -/
def EscOf (w : World) (R : Nat) (s : ByteArray) (B b : Nat) (l : List UInt8) (x : J.Res (List UInt8)) (en : Ending) (W : World) : Prop :=
  (∃ u r, x = .ok (u, r) ∧ en = .returned (.bool true) ∧ Rdr w R s (s.size - r.length) 0 0 W ∧ Holds B b (l ++ u) W) ∨ (∃ n er q, x = .error (n, er) ∧ q ≤ s.size ∧ en = .returned (.bool false) ∧ Rdr w R s q er ((s.size - n : Nat) : Int) W)
set_option maxRecDepth 100000 in
set_option maxHeartbeats 8000000 in
theorem escaped_u {w : World} {G B R b p : Nat} {s : ByteArray} {l : List UInt8} {W : World} (h : Rdr w R s p 0 0 W) (hB : Holds B b l W) (hwB : w.heap.size ≤ B) (hl : l.length ≤ 100000000000000) (hp : p < s.size) (hs : s.size ≤ 100000000000000) (hG : Ground G w) (hBR : G ≤ R) (hc : s[p] = 92) (HS : Hid (∀ c r, s.data.toList.drop (p + 1) = c :: r → J.sign c = none)) :
    Calls Tryz.prog 69 #[.pointer (some ⟨R, 0, none⟩), .pointer (some ⟨b, 0, none⟩)] W (EscOf w R s B b l (J.esc (s.data.toList.drop p))) := by
  have HR := hid h
  have HB := hid hB
  obtain ⟨RES, hRES⟩ : ∃ x, J.esc (s.data.toList.drop p) = x := ⟨_, rfl⟩
  rw [hRES]
  obtain ⟨c0, c1, -, -⟩ := h.cells
  obtain ⟨q, hq⟩ : ∃ q, p + 1 = q := ⟨_, rfl⟩
  have e1 : (p : Int) + 1 = (q : Int) := by omega
  have e2 : IntKind.i64.wrap (q : Int) = (q : Int) := by rw [IntKind.wrap_i64]; omega
  have q0 : (0 : Int) ≤ (q : Int) := by omega
  have q1 : (q : Int) ≤ (s.size : Int) := by omega
  have hdp : s.data.toList.drop p = 92 :: s.data.toList.drop q := by rw [drop_at hp, hc, hq]
  obtain ⟨t, ht⟩ : ∃ t, s.extract q s.size = t := ⟨_, rfl⟩
  have htl : t.data.toList = s.data.toList.drop q := by rw [← ht, Lib.extract_to_end]
  rw [hq] at HS
  have hE := J.esc_u hdp HS.out
  rw [hRES] at hE
  obtain ⟨U, hU⟩ : ∃ U, J.u6 (s.data.toList.drop p) = U := ⟨_, rfl⟩
  obtain ⟨L, hL⟩ : ∃ L, J.u6 (s.data.toList.drop (p + 6)) = L := ⟨_, rfl⟩
  obtain ⟨p6, hp6⟩ : ∃ p6, p + 6 = p6 := ⟨_, rfl⟩
  obtain ⟨p12, hp12⟩ : ∃ p12, p + 12 = p12 := ⟨_, rfl⟩
  have e6 : (p : Int) + 6 = (p6 : Int) := by omega
  have e12 : (p : Int) + 12 = (p12 : Int) := by omega
  have w6 : IntKind.i64.wrap (p6 : Int) = (p6 : Int) := by rw [IntKind.wrap_i64]; omega
  have w12 : IntKind.i64.wrap (p12 : Int) = (p12 : Int) := by rw [IntKind.wrap_i64]; omega
  rw [List.drop_drop, List.drop_drop, hU, hL] at hE
  have hUr := J.u6_lt (s.data.toList.drop p)
  rw [hU] at hUr
  have hLr := J.u6_lt (s.data.toList.drop (p + 6))
  rw [hL] at hLr
  have HUU : Hid (0 ≤ U → p6 ≤ s.size) := fun h => by
    rcases Nat.lt_or_ge (s.data.toList.drop p).length 6 with h6 | h6
    · have := J.u6_short h6; omega
    · rw [drop_len] at h6; omega
  have HLL : Hid (56320 ≤ L → p + 12 ≤ s.size) := fun h => by
    rcases Nat.lt_or_ge (s.data.toList.drop (p + 6)).length 6 with h6 | h6
    · have := J.u6_short h6; omega
    · rw [drop_len] at h6; omega
  rw [hp6] at hL hE
  have HE := hid hE
  have HU := hid hU
  have HL := hid hL
  have HP6 := hid hp6
  have HP12 := hid hp12
  clear hU hL hp6 hp12 hE hRES h hB
  by_cases hqe : q = s.size
  · have t0 : (t.toList.isEmpty) = true := by
      rw [Lib.toList_data, htl, drop_end (by omega)]; rfl
    clear HS hdp htl hc hqe hq
    go_enter Tryz.func69, Tryz.ntmps69
    go_wp2_with fail
    go_quiet (fail)
    have HR0 := hid (HR.out.drewN nq)
    have HB0 := hid (HB.out.after (below_drewN (Below.refl _ _) nq))
    clear HR HB c0 c1
    have HR := HR0
    have HB := HB0
    clear HR0 HB0
    generalize World.drewN W nq = w0 at *
    obtain ⟨c0, c1, -, -⟩ := HR.out.cells
    go_wp2_with fail
    refine (unit_any p HR.out (by omega) (by omega) hG hBR).mono ?_
    rintro en w1 ⟨rfl, hb⟩
    rw [HU.out]
    have HR1 := hid (HR.out.below hb)
    have HB1 := hid (HB.out.after hb)
    clear hb HR HB c0 c1
    obtain ⟨d0, d1, -, -⟩ := HR1.out.cells
    obtain ⟨-, g1, -, -⟩ := HR1.out.free
    rcases hUr with rfl | ⟨hU0, hU1⟩
    · have F1 : (decide ((55296 : Int) ≤ -1) && decide ((-1 : Int) < 55296 + 1024)) = false := rfl
      have F2 : (decide ((56320 : Int) ≤ -1) && decide ((-1 : Int) < 56320 + 1024)) = false := rfl
      have HX : Hid (RES = .error ((s.data.toList.drop p).length, 4)) := by
        show _ = _
        rw [HE.out]; rfl
      clear HE
      go_wp2_with fail
      refine (half_any (-1) 55296 _ (by decide) (by decide)).mono ?_
      rintro en w2 ⟨rfl, hw⟩
      rw [hw, F1]
      clear hw
      go_wp2_with fail
      refine (half_any (-1) 56320 _ (by decide) (by decide)).mono ?_
      rintro en w2 ⟨rfl, hw⟩
      rw [hw, F2]
      clear hw
      go_wp2_with fail
      refine (bad0 HR1.out).mono ?_
      rintro en w3 ⟨rfl, hr⟩
      have H3 := hid hr
      clear hr
      go_wp2_with fail
      go_ret
      exact Or.inr ⟨_, 4, p, HX.out, by omega, rfl, by rw [drop_len, show s.size - (s.size - p) = p by omega]; exact H3.out⟩

    by_cases h1 : 55296 ≤ U ∧ U ≤ 56319
    · have F1 : (decide ((55296 : Int) ≤ U) && decide (U < 55296 + 1024)) = true := by rw [Bool.and_eq_true, decide_eq_true_iff, decide_eq_true_iff]; omega
      by_cases hL : 56320 ≤ L ∧ L ≤ 57343
      · have F3 : (decide ((56320 : Int) ≤ L) && decide (L < 56320 + 1024)) = true := by rw [Bool.and_eq_true, decide_eq_true_iff, decide_eq_true_iff]; omega
        have hok := J.ok_pair h1 hL
        obtain ⟨V, hV⟩ : ∃ V : Int, 65536 + (U - 55296) * 1024 + L - 56320 = V := ⟨_, rfl⟩
        rw [hV] at hok
        have HX : Hid (RES = .ok (Go.Proofs.YtphjfighamadgaaGreatDoor.W.charL V, s.data.toList.drop (p + 12))) := by
          show _ = _
          rw [HE.out]; unfold J.escU; rw [if_neg (by omega), if_pos h1, if_pos hL, hV]
        obtain ⟨L0, L1⟩ := hL
        obtain ⟨U0, U1⟩ := h1
        have HV := hid hV
        have HOK := hid hok
        have hp12 : p + 12 ≤ s.size := by
          have h12 := HLL.out L0
          omega
        have eV : (U - 55296) * 1024 + (L - 56320) + 65536 = V := by omega
        have V0 : 0 ≤ V := by omega
        have V1 : V ≤ 1114111 := by omega
        have hlt : decide (V < 0) = false := by simp; omega
        clear HE hV hok
        go_wp2_with fail
        refine (half_any U 55296 _ (by decide) (by decide)).mono ?_
        rintro en w2 ⟨rfl, hw⟩
        rw [hw, F1]
        clear hw
        go_wp2_with fail
        refine (unit_any p6 HR1.out (by omega) (by omega) hG hBR).mono ?_
        rintro en w2 ⟨rfl, hb⟩
        rw [HL.out]
        have HR2 := hid (HR1.out.below hb)
        have HB2 := hid (HB1.out.after hb)
        clear hb HR1 HB1 d0 d1 g1
        have HR1 := HR2
        have HB1 := HB2
        clear HR2 HB2
        obtain ⟨d0, d1, -, -⟩ := HR1.out.cells
        obtain ⟨-, g1, -, -⟩ := HR1.out.free
        go_wp2_with fail
        refine (half_any U 55296 _ (by decide) (by decide)).mono ?_
        rintro en w2 ⟨rfl, hw⟩
        rw [hw, F1]
        clear hw
        go_wp2_with fail
        refine (half_any L 56320 _ (by decide) (by decide)).mono ?_
        rintro en w2 ⟨rfl, hw⟩
        rw [hw, F3]
        clear hw
        go_wp2_with fail
        refine (writeRune_any B b l V HOK.out _ HB1.out (by omega) HB1.out.bw).mono ?_
        rintro en w3 ⟨⟨z, rfl⟩, hh, hb, hk⟩
        have HR3 := hid (HR1.out.under hb hwB)
        have HB3 := hid hh
        clear hh hb hk HR1 HB1 d0 d1 g1
        obtain ⟨d0, d1, -, -⟩ := HR3.out.cells
        obtain ⟨-, g1, -, -⟩ := HR3.out.free
        go_wp2_with fail
        go_ret
        have HS := HR3.out.set1 p12
        refine Or.inl ⟨_, _, HX.out, rfl, ?_, HB3.out.grown (grownBy_set _ _ _ _) (by have := HR3.out.lt; omega)⟩
        rw [drop_len, show s.size - (s.size - (p + 12)) = p12 by omega]; exact HS
      · have F3 : (decide ((56320 : Int) ≤ L) && decide (L < 56320 + 1024)) = false := by rw [Bool.eq_false_iff, ne_eq, Bool.and_eq_true, decide_eq_true_iff, decide_eq_true_iff]; omega
        have HX : Hid (RES = .error ((s.data.toList.drop p).length, 4)) := by
          show _ = _
          rw [HE.out]; unfold J.escU; rw [if_neg (by omega), if_pos h1, if_neg hL]
        clear HE
        go_wp2_with fail
        refine (half_any U 55296 _ (by decide) (by decide)).mono ?_
        rintro en w2 ⟨rfl, hw⟩
        rw [hw, F1]
        clear hw
        go_wp2_with fail
        refine (unit_any p6 HR1.out (by omega) (by omega) hG hBR).mono ?_
        rintro en w2 ⟨rfl, hb⟩
        rw [HL.out]
        have HR2 := hid (HR1.out.below hb)
        have HB2 := hid (HB1.out.after hb)
        clear hb HR1 HB1 d0 d1 g1
        have HR1 := HR2
        have HB1 := HB2
        clear HR2 HB2
        obtain ⟨d0, d1, -, -⟩ := HR1.out.cells
        obtain ⟨-, g1, -, -⟩ := HR1.out.free
        go_wp2_with fail
        refine (half_any U 55296 _ (by decide) (by decide)).mono ?_
        rintro en w2 ⟨rfl, hw⟩
        rw [hw, F1]
        clear hw
        go_wp2_with fail
        refine (half_any L 56320 _ (by decide) (by decide)).mono ?_
        rintro en w2 ⟨rfl, hw⟩
        rw [hw, F3]
        clear hw
        go_wp2_with fail
        refine (bad0 HR1.out).mono ?_
        rintro en w3 ⟨rfl, hr⟩
        have H3 := hid hr
        clear hr
        go_wp2_with fail
        go_ret
        exact Or.inr ⟨_, 4, p, HX.out, by omega, rfl, by rw [drop_len, show s.size - (s.size - p) = p by omega]; exact H3.out⟩

    · have F1 : (decide ((55296 : Int) ≤ U) && decide (U < 55296 + 1024)) = false := by rw [Bool.eq_false_iff, ne_eq, Bool.and_eq_true, decide_eq_true_iff, decide_eq_true_iff]; omega
      by_cases h2 : 56320 ≤ U ∧ U ≤ 57343
      · have F2 : (decide ((56320 : Int) ≤ U) && decide (U < 56320 + 1024)) = true := by rw [Bool.and_eq_true, decide_eq_true_iff, decide_eq_true_iff]; omega
        have HX : Hid (RES = .error ((s.data.toList.drop p).length, 4)) := by
          show _ = _
          rw [HE.out]; unfold J.escU; rw [if_neg (by omega), if_neg h1, if_pos h2]
        clear HE
        go_wp2_with fail
        refine (half_any U 55296 _ (by decide) (by decide)).mono ?_
        rintro en w2 ⟨rfl, hw⟩
        rw [hw, F1]
        clear hw
        go_wp2_with fail
        refine (half_any U 56320 _ (by decide) (by decide)).mono ?_
        rintro en w2 ⟨rfl, hw⟩
        rw [hw, F2]
        clear hw
        go_wp2_with fail
        refine (unit_any p6 HR1.out (by omega) (by omega) hG hBR).mono ?_
        rintro en w2 ⟨rfl, hb⟩
        rw [HL.out]
        have HR2 := hid (HR1.out.below hb)
        have HB2 := hid (HB1.out.after hb)
        clear hb HR1 HB1 d0 d1 g1
        have HR1 := HR2
        have HB1 := HB2
        clear HR2 HB2
        obtain ⟨d0, d1, -, -⟩ := HR1.out.cells
        obtain ⟨-, g1, -, -⟩ := HR1.out.free
        go_wp2_with fail
        refine (half_any U 55296 _ (by decide) (by decide)).mono ?_
        rintro en w2 ⟨rfl, hw⟩
        rw [hw, F1]
        clear hw
        go_wp2_with fail
        refine (bad0 HR1.out).mono ?_
        rintro en w3 ⟨rfl, hr⟩
        have H3 := hid hr
        clear hr
        go_wp2_with fail
        go_ret
        exact Or.inr ⟨_, 4, p, HX.out, by omega, rfl, by rw [drop_len, show s.size - (s.size - p) = p by omega]; exact H3.out⟩
      · have F2 : (decide ((56320 : Int) ≤ U) && decide (U < 56320 + 1024)) = false := by rw [Bool.eq_false_iff, ne_eq, Bool.and_eq_true, decide_eq_true_iff, decide_eq_true_iff]; omega
        have HX : Hid (RES = .ok (Go.Proofs.YtphjfighamadgaaGreatDoor.W.charL U, s.data.toList.drop p6)) := by
          show _ = _
          rw [HE.out]; unfold J.escU; rw [if_neg (by omega), if_neg h1, if_neg h2]
        have HOK : Hid (Go.Proofs.YtphjfighamadgaaGreatDoor.W.charOk U = true) := by
          show _ = _
          simp only [Go.Proofs.YtphjfighamadgaaGreatDoor.W.charOk, Bool.or_eq_true, decide_eq_true_eq]; omega
        have hlt : decide (U < 0) = false := by simp; omega
        have hp6 : p6 ≤ s.size := HUU.out hU0
        clear HE h1 h2
        go_wp2_with fail
        refine (half_any U 55296 _ (by decide) (by decide)).mono ?_
        rintro en w2 ⟨rfl, hw⟩
        rw [hw, F1]
        clear hw
        go_wp2_with fail
        refine (half_any U 56320 _ (by decide) (by decide)).mono ?_
        rintro en w2 ⟨rfl, hw⟩
        rw [hw, F2]
        clear hw
        go_wp2_with fail
        refine (writeRune_any B b l U HOK.out _ HB1.out (by omega) HB1.out.bw).mono ?_
        rintro en w3 ⟨⟨z, rfl⟩, hh, hb, hk⟩
        have HR3 := hid (HR1.out.under hb hwB)
        have HB3 := hid hh
        clear hh hb hk HR1 HB1 d0 d1 g1
        obtain ⟨d0, d1, -, -⟩ := HR3.out.cells
        obtain ⟨-, g1, -, -⟩ := HR3.out.free
        go_wp2_with fail
        go_ret
        have HS := HR3.out.set1 p6
        refine Or.inl ⟨_, _, HX.out, rfl, ?_, HB3.out.grown (grownBy_set _ _ _ _) (by have := HR3.out.lt; omega)⟩
        rw [drop_len, show s.size - (s.size - p6) = p6 by omega]; exact HS
  · have hqs : q < s.size := by omega
    have hd2 := drop_at hqs
    have h0 : 0 < t.size := by rw [Lib.size_eq, htl, drop_len]; omega
    have h0' : (0 : Int) < (t.size : Int) := by omega
    have t0 : (t.toList.isEmpty) = false := by
      rw [Lib.toList_data, htl, hd2]; rfl
    have hx : t[0] = s[q] := by
      have h1 := Lib.data_getElem? t 0 h0
      rw [htl, hd2] at h1
      exact (Option.some.inj h1).symm
    have hsg := J.sign_none (HS.out _ _ (by rw [hd2]))
    have cI := fun X => Tryz.strings_IndexByte ⟨#[34, 92, 47, 98, 102, 110, 114, 116]⟩ (t[0].toNat : Int) X
    have e4 : ((t[0].toNat : Int)).toNat.toUInt8 = s[q] := by rw [hx]; simp
    rw [e4, show (⟨#[34, 92, 47, 98, 102, 110, 114, 116]⟩ : ByteArray).data.toList = [34, 92, 47, 98, 102, 110, 114, 116] from rfl, hsg] at cI
    clear HS hdp htl hc hqe hq hd2 hx hsg e4
    go_enter Tryz.func69, Tryz.ntmps69
    go_wp2_with fail
    go_quiet (fail)
    have HR0 := hid (HR.out.drewN nq)
    have HB0 := hid (HB.out.after (below_drewN (Below.refl _ _) nq))
    clear HR HB c0 c1
    have HR := HR0
    have HB := HB0
    clear HR0 HB0
    generalize World.drewN W nq = w0 at *
    obtain ⟨c0, c1, -, -⟩ := HR.out.cells
    go_wp2_with fail
    refine (cI _).mono ?_
    rintro en w' ⟨rfl, hw⟩
    rw [hw]
    clear hw
    go_wp2_with fail
    refine (unit_any p HR.out (by omega) (by omega) hG hBR).mono ?_
    rintro en w1 ⟨rfl, hb⟩
    rw [HU.out]
    have HR1 := hid (HR.out.below hb)
    have HB1 := hid (HB.out.after hb)
    clear hb HR HB c0 c1
    obtain ⟨d0, d1, -, -⟩ := HR1.out.cells
    obtain ⟨-, g1, -, -⟩ := HR1.out.free
    rcases hUr with rfl | ⟨hU0, hU1⟩
    · have F1 : (decide ((55296 : Int) ≤ -1) && decide ((-1 : Int) < 55296 + 1024)) = false := rfl
      have F2 : (decide ((56320 : Int) ≤ -1) && decide ((-1 : Int) < 56320 + 1024)) = false := rfl
      have HX : Hid (RES = .error ((s.data.toList.drop p).length, 4)) := by
        show _ = _
        rw [HE.out]; rfl
      clear HE
      go_wp2_with fail
      refine (half_any (-1) 55296 _ (by decide) (by decide)).mono ?_
      rintro en w2 ⟨rfl, hw⟩
      rw [hw, F1]
      clear hw
      go_wp2_with fail
      refine (half_any (-1) 56320 _ (by decide) (by decide)).mono ?_
      rintro en w2 ⟨rfl, hw⟩
      rw [hw, F2]
      clear hw
      go_wp2_with fail
      refine (bad0 HR1.out).mono ?_
      rintro en w3 ⟨rfl, hr⟩
      have H3 := hid hr
      clear hr
      go_wp2_with fail
      go_ret
      exact Or.inr ⟨_, 4, p, HX.out, by omega, rfl, by rw [drop_len, show s.size - (s.size - p) = p by omega]; exact H3.out⟩

    by_cases h1 : 55296 ≤ U ∧ U ≤ 56319
    · have F1 : (decide ((55296 : Int) ≤ U) && decide (U < 55296 + 1024)) = true := by rw [Bool.and_eq_true, decide_eq_true_iff, decide_eq_true_iff]; omega
      by_cases hL : 56320 ≤ L ∧ L ≤ 57343
      · have F3 : (decide ((56320 : Int) ≤ L) && decide (L < 56320 + 1024)) = true := by rw [Bool.and_eq_true, decide_eq_true_iff, decide_eq_true_iff]; omega
        have hok := J.ok_pair h1 hL
        obtain ⟨V, hV⟩ : ∃ V : Int, 65536 + (U - 55296) * 1024 + L - 56320 = V := ⟨_, rfl⟩
        rw [hV] at hok
        have HX : Hid (RES = .ok (Go.Proofs.YtphjfighamadgaaGreatDoor.W.charL V, s.data.toList.drop (p + 12))) := by
          show _ = _
          rw [HE.out]; unfold J.escU; rw [if_neg (by omega), if_pos h1, if_pos hL, hV]
        obtain ⟨L0, L1⟩ := hL
        obtain ⟨U0, U1⟩ := h1
        have HV := hid hV
        have HOK := hid hok
        have hp12 : p + 12 ≤ s.size := by
          have h12 := HLL.out L0
          omega
        have eV : (U - 55296) * 1024 + (L - 56320) + 65536 = V := by omega
        have V0 : 0 ≤ V := by omega
        have V1 : V ≤ 1114111 := by omega
        have hlt : decide (V < 0) = false := by simp; omega
        clear HE hV hok
        go_wp2_with fail
        refine (half_any U 55296 _ (by decide) (by decide)).mono ?_
        rintro en w2 ⟨rfl, hw⟩
        rw [hw, F1]
        clear hw
        go_wp2_with fail
        refine (unit_any p6 HR1.out (by omega) (by omega) hG hBR).mono ?_
        rintro en w2 ⟨rfl, hb⟩
        rw [HL.out]
        have HR2 := hid (HR1.out.below hb)
        have HB2 := hid (HB1.out.after hb)
        clear hb HR1 HB1 d0 d1 g1
        have HR1 := HR2
        have HB1 := HB2
        clear HR2 HB2
        obtain ⟨d0, d1, -, -⟩ := HR1.out.cells
        obtain ⟨-, g1, -, -⟩ := HR1.out.free
        go_wp2_with fail
        refine (half_any U 55296 _ (by decide) (by decide)).mono ?_
        rintro en w2 ⟨rfl, hw⟩
        rw [hw, F1]
        clear hw
        go_wp2_with fail
        refine (half_any L 56320 _ (by decide) (by decide)).mono ?_
        rintro en w2 ⟨rfl, hw⟩
        rw [hw, F3]
        clear hw
        go_wp2_with fail
        refine (writeRune_any B b l V HOK.out _ HB1.out (by omega) HB1.out.bw).mono ?_
        rintro en w3 ⟨⟨z, rfl⟩, hh, hb, hk⟩
        have HR3 := hid (HR1.out.under hb hwB)
        have HB3 := hid hh
        clear hh hb hk HR1 HB1 d0 d1 g1
        obtain ⟨d0, d1, -, -⟩ := HR3.out.cells
        obtain ⟨-, g1, -, -⟩ := HR3.out.free
        go_wp2_with fail
        go_ret
        have HS := HR3.out.set1 p12
        refine Or.inl ⟨_, _, HX.out, rfl, ?_, HB3.out.grown (grownBy_set _ _ _ _) (by have := HR3.out.lt; omega)⟩
        rw [drop_len, show s.size - (s.size - (p + 12)) = p12 by omega]; exact HS
      · have F3 : (decide ((56320 : Int) ≤ L) && decide (L < 56320 + 1024)) = false := by rw [Bool.eq_false_iff, ne_eq, Bool.and_eq_true, decide_eq_true_iff, decide_eq_true_iff]; omega
        have HX : Hid (RES = .error ((s.data.toList.drop p).length, 4)) := by
          show _ = _
          rw [HE.out]; unfold J.escU; rw [if_neg (by omega), if_pos h1, if_neg hL]
        clear HE
        go_wp2_with fail
        refine (half_any U 55296 _ (by decide) (by decide)).mono ?_
        rintro en w2 ⟨rfl, hw⟩
        rw [hw, F1]
        clear hw
        go_wp2_with fail
        refine (unit_any p6 HR1.out (by omega) (by omega) hG hBR).mono ?_
        rintro en w2 ⟨rfl, hb⟩
        rw [HL.out]
        have HR2 := hid (HR1.out.below hb)
        have HB2 := hid (HB1.out.after hb)
        clear hb HR1 HB1 d0 d1 g1
        have HR1 := HR2
        have HB1 := HB2
        clear HR2 HB2
        obtain ⟨d0, d1, -, -⟩ := HR1.out.cells
        obtain ⟨-, g1, -, -⟩ := HR1.out.free
        go_wp2_with fail
        refine (half_any U 55296 _ (by decide) (by decide)).mono ?_
        rintro en w2 ⟨rfl, hw⟩
        rw [hw, F1]
        clear hw
        go_wp2_with fail
        refine (half_any L 56320 _ (by decide) (by decide)).mono ?_
        rintro en w2 ⟨rfl, hw⟩
        rw [hw, F3]
        clear hw
        go_wp2_with fail
        refine (bad0 HR1.out).mono ?_
        rintro en w3 ⟨rfl, hr⟩
        have H3 := hid hr
        clear hr
        go_wp2_with fail
        go_ret
        exact Or.inr ⟨_, 4, p, HX.out, by omega, rfl, by rw [drop_len, show s.size - (s.size - p) = p by omega]; exact H3.out⟩

    · have F1 : (decide ((55296 : Int) ≤ U) && decide (U < 55296 + 1024)) = false := by rw [Bool.eq_false_iff, ne_eq, Bool.and_eq_true, decide_eq_true_iff, decide_eq_true_iff]; omega
      by_cases h2 : 56320 ≤ U ∧ U ≤ 57343
      · have F2 : (decide ((56320 : Int) ≤ U) && decide (U < 56320 + 1024)) = true := by rw [Bool.and_eq_true, decide_eq_true_iff, decide_eq_true_iff]; omega
        have HX : Hid (RES = .error ((s.data.toList.drop p).length, 4)) := by
          show _ = _
          rw [HE.out]; unfold J.escU; rw [if_neg (by omega), if_neg h1, if_pos h2]
        clear HE
        go_wp2_with fail
        refine (half_any U 55296 _ (by decide) (by decide)).mono ?_
        rintro en w2 ⟨rfl, hw⟩
        rw [hw, F1]
        clear hw
        go_wp2_with fail
        refine (half_any U 56320 _ (by decide) (by decide)).mono ?_
        rintro en w2 ⟨rfl, hw⟩
        rw [hw, F2]
        clear hw
        go_wp2_with fail
        refine (unit_any p6 HR1.out (by omega) (by omega) hG hBR).mono ?_
        rintro en w2 ⟨rfl, hb⟩
        rw [HL.out]
        have HR2 := hid (HR1.out.below hb)
        have HB2 := hid (HB1.out.after hb)
        clear hb HR1 HB1 d0 d1 g1
        have HR1 := HR2
        have HB1 := HB2
        clear HR2 HB2
        obtain ⟨d0, d1, -, -⟩ := HR1.out.cells
        obtain ⟨-, g1, -, -⟩ := HR1.out.free
        go_wp2_with fail
        refine (half_any U 55296 _ (by decide) (by decide)).mono ?_
        rintro en w2 ⟨rfl, hw⟩
        rw [hw, F1]
        clear hw
        go_wp2_with fail
        refine (bad0 HR1.out).mono ?_
        rintro en w3 ⟨rfl, hr⟩
        have H3 := hid hr
        clear hr
        go_wp2_with fail
        go_ret
        exact Or.inr ⟨_, 4, p, HX.out, by omega, rfl, by rw [drop_len, show s.size - (s.size - p) = p by omega]; exact H3.out⟩
      · have F2 : (decide ((56320 : Int) ≤ U) && decide (U < 56320 + 1024)) = false := by rw [Bool.eq_false_iff, ne_eq, Bool.and_eq_true, decide_eq_true_iff, decide_eq_true_iff]; omega
        have HX : Hid (RES = .ok (Go.Proofs.YtphjfighamadgaaGreatDoor.W.charL U, s.data.toList.drop p6)) := by
          show _ = _
          rw [HE.out]; unfold J.escU; rw [if_neg (by omega), if_neg h1, if_neg h2]
        have HOK : Hid (Go.Proofs.YtphjfighamadgaaGreatDoor.W.charOk U = true) := by
          show _ = _
          simp only [Go.Proofs.YtphjfighamadgaaGreatDoor.W.charOk, Bool.or_eq_true, decide_eq_true_eq]; omega
        have hlt : decide (U < 0) = false := by simp; omega
        have hp6 : p6 ≤ s.size := HUU.out hU0
        clear HE h1 h2
        go_wp2_with fail
        refine (half_any U 55296 _ (by decide) (by decide)).mono ?_
        rintro en w2 ⟨rfl, hw⟩
        rw [hw, F1]
        clear hw
        go_wp2_with fail
        refine (half_any U 56320 _ (by decide) (by decide)).mono ?_
        rintro en w2 ⟨rfl, hw⟩
        rw [hw, F2]
        clear hw
        go_wp2_with fail
        refine (writeRune_any B b l U HOK.out _ HB1.out (by omega) HB1.out.bw).mono ?_
        rintro en w3 ⟨⟨z, rfl⟩, hh, hb, hk⟩
        have HR3 := hid (HR1.out.under hb hwB)
        have HB3 := hid hh
        clear hh hb hk HR1 HB1 d0 d1 g1
        obtain ⟨d0, d1, -, -⟩ := HR3.out.cells
        obtain ⟨-, g1, -, -⟩ := HR3.out.free
        go_wp2_with fail
        go_ret
        have HS := HR3.out.set1 p6
        refine Or.inl ⟨_, _, HX.out, rfl, ?_, HB3.out.grown (grownBy_set _ _ _ _) (by have := HR3.out.lt; omega)⟩
        rw [drop_len, show s.size - (s.size - p6) = p6 by omega]; exact HS
set_option maxRecDepth 100000 in
set_option maxHeartbeats 8000000 in
theorem escaped_s {w : World} {G B R b p : Nat} {s : ByteArray} {l : List UInt8} {W : World} (h : Rdr w R s p 0 0 W) (hB : Holds B b l W) (hwB : w.heap.size ≤ B) (hl : l.length ≤ 100000000000000) (hp : p < s.size) (hs : s.size ≤ 100000000000000) (_hG : Ground G w) (_hBR : G ≤ R) (hc : s[p] = 92) {c d : UInt8} {r : List UInt8} (hr : s.data.toList.drop (p + 1) = c :: r) (hd : J.sign c = some d) :
    Calls Tryz.prog 69 #[.pointer (some ⟨R, 0, none⟩), .pointer (some ⟨b, 0, none⟩)] W (EscOf w R s B b l (J.esc (s.data.toList.drop p))) := by
  have HR := hid h
  have HB := hid hB
  obtain ⟨RES, hRES⟩ : ∃ x, J.esc (s.data.toList.drop p) = x := ⟨_, rfl⟩
  rw [hRES]
  obtain ⟨c0, c1, -, -⟩ := h.cells
  obtain ⟨q, hq⟩ : ∃ q, p + 1 = q := ⟨_, rfl⟩
  have e1 : (p : Int) + 1 = (q : Int) := by omega
  have e2 : IntKind.i64.wrap (q : Int) = (q : Int) := by rw [IntKind.wrap_i64]; omega
  have q0 : (0 : Int) ≤ (q : Int) := by omega
  have q1 : (q : Int) ≤ (s.size : Int) := by omega
  have hdp : s.data.toList.drop p = 92 :: s.data.toList.drop q := by rw [drop_at hp, hc, hq]
  obtain ⟨t, ht⟩ : ∃ t, s.extract q s.size = t := ⟨_, rfl⟩
  have htl : t.data.toList = s.data.toList.drop q := by rw [← ht, Lib.extract_to_end]
  rw [hq] at hr
  have hqs : q < s.size := by
    rcases Nat.lt_or_ge q s.size with h1 | h1
    · exact h1
    · rw [drop_end h1] at hr; cases hr
  have HX : Hid (RES = .ok ([d], r)) := by
    show _ = _
    rw [← hRES, hdp, hr]; exact J.esc_sign hd
  have hrl : s.size - r.length = p + 2 := by
    have := congrArg List.length hr
    rw [drop_len, List.length_cons] at this; omega
  obtain ⟨p2, hp2⟩ : ∃ p2, p + 2 = p2 := ⟨_, rfl⟩
  have e3 : (p : Int) + 2 = (p2 : Int) := by omega
  have w3 : IntKind.i64.wrap (p2 : Int) = (p2 : Int) := by rw [IntKind.wrap_i64]; omega
  have h0 : 0 < t.size := by rw [Lib.size_eq, htl, drop_len]; omega
  have h0' : (0 : Int) < (t.size : Int) := by omega
  have t0 : (t.toList.isEmpty) = false := by
    rw [Lib.toList_data, htl, hr]; rfl
  have hx : t[0] = c := by
    have h1 := Lib.data_getElem? t 0 h0
    rw [htl, hr] at h1
    exact (Option.some.inj h1).symm
  obtain ⟨i, hi8, -, hid8, hix⟩ := J.sign_at hd
  have cI := fun X => Tryz.strings_IndexByte ⟨#[34, 92, 47, 98, 102, 110, 114, 116]⟩ (t[0].toNat : Int) X
  have e4 : ((t[0].toNat : Int)).toNat.toUInt8 = c := by rw [hx]; simp
  rw [e4, show (⟨#[34, 92, 47, 98, 102, 110, 114, 116]⟩ : ByteArray).data.toList = [34, 92, 47, 98, 102, 110, 114, 116] from rfl, hix] at cI
  have HRL := hid hrl
  have HP2 := hid hp2
  clear hdp htl hc hq hx e4 hr hd hRES hrl hix hp2 h hB
  go_enter Tryz.func69, Tryz.ntmps69
  go_wp2_with fail
  go_quiet (fail)
  have HR0 := hid (HR.out.drewN nq)
  have HB0 := hid (HB.out.after (below_drewN (Below.refl _ _) nq))
  clear HR HB c0 c1
  have HR := HR0
  have HB := HB0
  clear HR0 HB0
  generalize World.drewN W nq = w0 at *
  obtain ⟨c0, c1, -, -⟩ := HR.out.cells
  go_wp2_with fail
  refine (cI _).mono ?_
  rintro en w' ⟨rfl, hw⟩
  rw [hw]
  clear hw cI
  have hall : i = 0 ∨ i = 1 ∨ i = 2 ∨ i = 3 ∨ i = 4 ∨ i = 5 ∨ i = 6 ∨ i = 7 := by omega
  rcases hall with rfl | rfl | rfl | rfl | rfl | rfl | rfl | rfl
  all_goals
    obtain rfl := Option.some.inj hid8
    clear hid8 hi8
    go_wp2_with fail
    refine (writeByte_any B b l _ _ HB.out (by omega) HB.out.bw).mono ?_
    rintro en w3 ⟨rfl, hh, hb, hk⟩
    have HR3 := hid (HR.out.under hb hwB)
    have HB3 := hid hh
    clear hh hb hk
    obtain ⟨d0, d1, -, -⟩ := HR3.out.cells
    obtain ⟨-, g1, -, -⟩ := HR3.out.free
    go_wp2_with fail
    go_ret
    have HS := HR3.out.set1 p2
    refine Or.inl ⟨_, _, HX.out, rfl, ?_, HB3.out.grown (grownBy_set _ _ _ _) (by have := HR3.out.lt; omega)⟩
    rw [HRL.out, HP2.out]; exact HS
theorem escaped_any {w : World} {G B R b p : Nat} {s : ByteArray} {l : List UInt8} {W : World} (h : Rdr w R s p 0 0 W) (hB : Holds B b l W) (hwB : w.heap.size ≤ B) (hl : l.length ≤ 100000000000000) (hp : p < s.size) (hs : s.size ≤ 100000000000000) (hG : Ground G w) (hBR : G ≤ R) (hc : s[p] = 92) :
    Calls Tryz.prog 69 #[.pointer (some ⟨R, 0, none⟩), .pointer (some ⟨b, 0, none⟩)] W (EscOf w R s B b l (J.esc (s.data.toList.drop p))) := by
  cases hd : s.data.toList.drop (p + 1) with
  | nil => exact escaped_u h hB hwB hl hp hs hG hBR hc (fun c r e => by rw [hd] at e; cases e)
  | cons c r =>
    cases hs' : J.sign c with
    | none => exact escaped_u h hB hwB hl hp hs hG hBR hc (fun c' r' e => by rw [hd] at e; cases e; exact hs')
    | some d => exact escaped_s h hB hwB hl hp hs hG hBR hc hd hs'
end Go.Proofs.YtphjfighamadgaaGreatDoor
