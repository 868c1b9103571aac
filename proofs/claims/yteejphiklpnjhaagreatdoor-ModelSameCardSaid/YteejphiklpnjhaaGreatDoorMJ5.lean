/- Values and attributes. -/
import Derived.Test.YteejphiklpnjhaaGreatDoorShelfB
import Derived.WalkKit
import Derived.Lib.FrozenHead2
import Derived.Lib.OthersKept
import Derived.Lib.AppendStr
import Derived.Lib.Hide
import Derived.Test.YteejphiklpnjhaaGreatDoorShelf
import Derived.Test.YteejphiklpnjhaaGreatDoorMJ3
import Derived.Lib.RuneBytes
import Derived.Test.YteejphiklpnjhaaGreatDoorMJ4
import Derived.Laws.OwnMore
import Derived.Deep.AppendLies
namespace Go.Proofs.YteejphiklpnjhaaGreatDoor
set_option maxRecDepth 100000
set_option maxHeartbeats 16000000
open Go.RowKit
open Go.Lib (hid)
theorem sizeBuilder : (Tryz.prog.info? 130).map (·.size) = some 2 := by kernel_rfl
theorem liesBuilder : liesAt Tryz.prog Tryz.prog.depth 130 (2 / Tryz.prog.cellsOf 130) 0 130 1 = true := by kernel_rfl
theorem copyCheck_used (b : Nat) (w : World) (h0 : w.cell? ⟨b, 0, none⟩ = some (.pointer (some ⟨b, 0, none⟩))) :
  Calls Tryz.prog 83 #[.pointer (some ⟨b, 0, none⟩)] w fun e w' => e = .returned (.tuple #[]) ∧ w' = w := by
 obtain ⟨j, hj, _⟩ := Option.map_eq_some_iff.1 sizeBuilder
 go_enter Tryz.func83, Tryz.ntmps83
 go_wp2
 rw [Lib.run_neq_ptr_same w _ Tryz.underlying127 hj]
 go_wp2
 go_end0
 exact ⟨rfl, rfl⟩
theorem copyCheck_fresh (b : Nat) (w : World) (h0 : w.cell? ⟨b, 0, none⟩ = some (.pointer none)) (hsh : w.shape? b = some (130, 2)) (hfz : w.frozen? ⟨b, 0, none⟩ = false) :
  Calls Tryz.prog 83 #[.pointer (some ⟨b, 0, none⟩)] w fun e w' => e = .returned (.tuple #[]) ∧ w' = w.setCell ⟨b, 0, none⟩ (.pointer (some ⟨b, 0, none⟩)) := by
 obtain ⟨j, hj, hjs⟩ := Option.map_eq_some_iff.1 sizeBuilder
 go_enter Tryz.func83, Tryz.ntmps83
 go_wp2
 rw [Lib.run_to_unsafe w ⟨b, 0, none⟩ Tryz.underlying127 Tryz.underlying189 hj (by rw [hjs]; decide) hsh (Nat.zero_lt_succ 1)]
 simp only [Result.andThen]
 rw [Oper.upon_value]
 go_wp2
 rw [run_callFunc_extern Tryz.func107 (by kernel_rfl) (by kernel_rfl) (by kernel_rfl) (e := Extern.AbiNoEscape.same) (by kernel_rfl)]
 rw [Lib.run_noEscape]
 simp only [Result.andThen]
 rw [Oper.upon_value]
 go_wp2
 rw [Lib.run_from_unsafe w ⟨b, 0, none⟩ Tryz.underlying189 Tryz.underlying127 hj hsh liesBuilder]
 simp only [Result.andThen]
 rw [Oper.upon_value]
 go_wp2
 go_end0
 exact ⟨rfl, rfl⟩
def Holds (B b : Nat) (l : List UInt8) (w : World) : Prop := Lib.IsBuilderF 130 5 B b (Lib.byteCells l) w
def Kept (b : Nat) (w w' : World) : Prop := Lib.OthersKept 5 (some b) w w'
theorem copyCheck_any (B b : Nat) (bs : List Value) (w : World) (h : Lib.IsBuilderF 130 5 B b bs w) :
   Calls Tryz.prog 83 #[.pointer (some ⟨b, 0, none⟩)] w fun e w' => e = .returned (.tuple #[]) ∧ (Lib.BuilderAtF 130 5 B b (.pointer (some ⟨b, 0, none⟩)) bs w' ∧ Below B w w' ∧ Kept b w w') := by
 rcases h with h | h
 · refine (copyCheck_fresh b w h.cell0 h.shape h.frozen0).mono ?_
   rintro e w' ⟨rfl, rfl⟩
   exact ⟨rfl, h.used _, (Below.refl B w).setCell (p := ⟨b, 0, none⟩) h.1 _, (Lib.OthersKept.refl _ _ w).setCell ⟨b, 0, none⟩ rfl _⟩
 · refine (copyCheck_used b w h.cell0).mono ?_
   rintro e w' ⟨rfl, rfl⟩
   exact ⟨rfl, h, Below.refl B _, Lib.OthersKept.refl _ _ _⟩
theorem string_any (B b : Nat) (l : List UInt8) (w : World) (h : Holds B b l w) (hBw : B ≤ w.heap.size) :
  Calls Tryz.prog 60 #[.pointer (some ⟨b, 0, none⟩)] w fun e w' => e = .returned (.string ⟨l.toArray⟩) ∧ Holds B b l w' ∧ Below B w w' ∧ Kept b w w' :=
 Tryz.Builder_String_any_k B b l w h hBw
theorem holds_fresh (w : World) : Holds w.heap.size w.heap.size [] (w.alloc (.cells #[.pointer none, .slice none 0 0] 130)) := Lib.IsBuilderF.of (Lib.fresh_isBuilder _ _ w)
end Go.Proofs.YteejphiklpnjhaaGreatDoor
namespace Go.Proofs.YteejphiklpnjhaaGreatDoor
set_option maxRecDepth 100000
set_option maxHeartbeats 16000000
open Go.RowKit
open Go.Lib (hid)
theorem encodeRune_charL {r : Int} (hok : W.charOk r = true) : Lib.encodeRune r = W.charL r := by
 have h0 : (0 ≤ r ∧ r ≤ 55295) ∨ (57344 ≤ r ∧ r ≤ 1114111) := by simpa only [W.charOk, Bool.or_eq_true, decide_eq_true_eq] using hok
 unfold Lib.encodeRune
 by_cases h1 : r ≤ 127
 · rw [Lib.encodeRuneZ_one (by omega) h1, W.charL_1 r (by omega) h1]; rfl
 · by_cases h2 : r ≤ 2047
   · rw [Lib.encodeRuneZ_two (by omega) h2, W.charL_2 r (by omega) h2]; rfl
   · by_cases h3 : r ≤ 65535
     · rw [Lib.encodeRuneZ_three (by omega), W.charL_3 r (by omega) h3 hok]; rfl
     · rw [Lib.encodeRuneZ_four (by omega) (by omega), W.charL_4 r (by omega) (by omega)]; rfl
theorem writeRune_cells (B b : Nat) (bs : List Value) (r : Int) (hr0 : -2147483648 ≤ r) (hr1 : r ≤ 2147483647) (w : World) (h : Lib.IsBuilderF 130 5 B b bs w) (hlen : bs.length + 4 ≤ 140737488355328) (hBw : B ≤ w.heap.size) :
   Calls Tryz.prog 61 #[.pointer (some ⟨b, 0, none⟩), .int .i32 r] w fun e w' => e = .returned (.tuple #[.int .i64 (Lib.runeCells r).length, .nilIface]) ∧ (Lib.BuilderAtF 130 5 B b (.pointer (some ⟨b, 0, none⟩)) (bs ++ Lib.runeCells r) w' ∧ Below B w w' ∧ Kept b w w') := by
 have hk4 := Lib.runeCells_le r
 go_enter Tryz.func61, Tryz.ntmps61
 go_wp2_with (go_at_call 83; refine (copyCheck_any B b bs _ h).mono ?_)
 rintro e w1 ⟨rfl, h1, hb1, hk1⟩
 obtain ⟨hB, v, hbk, hown, hne⟩ := h1
 obtain ⟨ao, cap, rfl⟩ : ∃ ao cap, v = .slice ao bs.length cap := by
   rcases hown.2 with ⟨hv, h0⟩ | ⟨g, cap, cur, fz, hv, _⟩
   · exact ⟨none, 0, by rw [hv, h0]⟩
   · exact ⟨_, _, hv⟩
 have c0 : w1.cell? ⟨b, 0, none⟩ = some (.pointer (some ⟨b, 0, none⟩)) := by rw [Lib.cell_of_heap hbk]; rfl
 have c1 : w1.cell? ⟨b, 1, none⟩ = some (.slice ao bs.length cap) := by rw [Lib.cell_of_heap hbk]; rfl
 go_wp2_with (go_at_call 84; refine (Tryz.utf8_AppendRune_row B _ bs.length bs r hr0 hr1 _ hown hlen (by have := hb1.size; omega)).mono ?_)
 rintro e w2 ⟨v', rfl, hown', o, hgrow⟩
 have hlt : b < w1.heap.size := by
   rcases Nat.lt_or_ge b w1.heap.size with h' | h'
   · exact h'
   · simp [Array.getElem?_eq_none h'] at hbk
 have hb2 : w2.heap[b]? = some (.cells #[.pointer (some ⟨b, 0, none⟩), .slice ao bs.length cap] 130 (0, 0)) := by
   rw [hgrow.block b (by simp; omega) (fun e => hne e.symm), Lib.alloc_old w1 _ b hlt]
   exact hbk
 have d0 : w2.cell? ⟨b, 0, none⟩ = some (.pointer (some ⟨b, 0, none⟩)) := by rw [Lib.cell_of_heap hb2]; rfl
 have d1 : w2.cell? ⟨b, 1, none⟩ = some (.slice ao bs.length cap) := by rw [Lib.cell_of_heap hb2]; rfl
 have f1 : w2.frozen? ⟨b, 1, none⟩ = false := Lib.frozen_of_heap hb2 1
 obtain ⟨g, cap', rfl⟩ : ∃ g cap', v' = .slice (some ⟨g, 0, none⟩) (bs.length + (Lib.runeCells r).length) cap' := by
   rcases hown'.2 with ⟨_, h0⟩ | ⟨g, cap', cur, fz, hv, _⟩
   · omega
   · exact ⟨g, cap', hv⟩
 go_wp2
 go_ret2
 refine ⟨?_, ?_, ?_, ((hk1.alloc _).grown hgrow (Lib.ownsRowF_kind (hown.alloc _))).setCell ⟨b, 1, none⟩ rfl _⟩
 · have e : ((bs.length : Int) + ((Lib.runeCells r).length : Int) - (bs.length : Int)) = ((Lib.runeCells r).length : Int) := by omega
   simp [e]
 · exact Lib.BuilderAtF.put (T := 130) (e := 5) hB hb2 (bs' := bs ++ Lib.runeCells r) (by simpa using hown') (by decide)
 · exact ((hb1.alloc (by have := hb1.size; omega) _).grown hgrow (by have := hb1.size; simp; omega) (fun k hk => (hown.lt k hk).1)).setCell (p := ⟨b, 1, none⟩) hB _
theorem writeRune_any (B b : Nat) (l : List UInt8) (r : Int) (hok : W.charOk r = true) (w : World) (h : Holds B b l w) (hlen : l.length + 4 ≤ 140737488355328) (hBw : B ≤ w.heap.size) :
  Calls Tryz.prog 61 #[.pointer (some ⟨b, 0, none⟩), .int .i32 r] w fun e w' => (∃ n : Int, e = .returned (.tuple #[.int .i64 n, .nilIface])) ∧ Holds B b (l ++ W.charL r) w' ∧ Below B w w' ∧ Kept b w w' := by
 have h0 : (0 ≤ r ∧ r ≤ 55295) ∨ (57344 ≤ r ∧ r ≤ 1114111) := by simpa only [W.charOk, Bool.or_eq_true, decide_eq_true_eq] using hok
 refine (writeRune_cells B b _ r (by omega) (by omega) w h (by rw [Lib.byteCells_length]; exact hlen) hBw).mono ?_
 rintro e w' ⟨rfl, h1, h2, h3⟩
 refine ⟨⟨_, rfl⟩, Or.inr ?_, h2, h3⟩
 rw [Lib.byteCells_append, ← encodeRune_charL hok, Lib.byteCells_encodeRune]; exact h1
theorem atF_grown {T e : TypeId} {B b R : Nat} {p : Value} {bs : List Value} {W W' : World} (h : Lib.BuilderAtF T e B b p bs W) (hg : W.grownBy W' (some R)) (hR : R < B) : Lib.BuilderAtF T e B b p bs W' := by
 have hlt := h.lt
 obtain ⟨hB, v, hv, hown, hne⟩ := h
 exact ⟨hB, v, (hg.block b hlt (fun e => by have := Option.some.inj e; omega)).trans hv, hown.kept hg (Or.inr fun e => by have := (hown.lt R e).1; omega), hne⟩
theorem Holds.grown {B b R : Nat} {l : List UInt8} {W W' : World} (h : Holds B b l W) (hg : W.grownBy W' (some R)) (hR : R < B) : Holds B b l W' := h.elim (fun x => .inl (atF_grown x hg hR)) (fun x => .inr (atF_grown x hg hR))
theorem Holds.lt {B b : Nat} {l : List UInt8} {w : World} (h : Holds B b l w) : b < w.heap.size := by
 rcases h with h | h
 · exact h.lt
 · exact h.lt
theorem atF_after {T e : TypeId} {B b : Nat} {p : Value} {bs : List Value} {W W' : World} (h : Lib.BuilderAtF T e B b p bs W) (hb : Below W.heap.size W W') : Lib.BuilderAtF T e B b p bs W' := by
 have hlt := h.lt
 obtain ⟨hB, v, hv, hown, hne⟩ := h
 exact ⟨hB, v, (hb.block b hlt).trans hv, hown.kept (row := none) ⟨hb.os, hb.tape, hb.output, hb.size, fun k hk _ => hb.block k hk⟩ (Classical.em _), hne⟩
theorem Holds.after {B b : Nat} {l : List UInt8} {w w' : World} (h : Holds B b l w) (hb : Below w.heap.size w w') : Holds B b l w' := h.elim (fun x => .inl (atF_after x hb)) (fun x => .inr (atF_after x hb))
theorem Holds.bw {B b : Nat} {l : List UInt8} {w : World} (h : Holds B b l w) : B ≤ w.heap.size := by
 have h1 := h.lt
 rcases h with h | h
 · have := h.1; omega
 · have := h.1; omega
end Go.Proofs.YteejphiklpnjhaaGreatDoor
namespace Go.Proofs.YteejphiklpnjhaaGreatDoor
set_option maxRecDepth 100000
set_option maxHeartbeats 16000000
open Go.RowKit
open Go.Lib (hid)
theorem charL_le (c : Int) : (W.charL c).length ≤ 4 := by
 unfold W.charL
 split
 · unfold W.charN W.charB
   rw [List.length_map]
   split
   · simp
   · split
     · simp
     · split <;> simp
 · simp
namespace X
theorem stands_ok {c : Int} (h : stands c = true) : W.charOk c = true := by
 unfold stands at h
 unfold W.charOk
 simp only [Bool.or_eq_true, decide_eq_true_eq] at h ⊢
 omega
theorem char_ok {l r : List UInt8} {c : Int} (h : char l = .ok (c, r)) : W.charOk c = true := by
 unfold char at h
 split at h
 · cases h
 · split at h
   · cases h
   · rename_i h1
     cases h
     refine stands_ok ?_
     cases hs : stands (Lib.decodeL l).1
     · exact absurd (Or.inr hs) h1
     · rfl
theorem tailN_ok {b m : Nat} {ds : List UInt8} {c : Int} (h : tailN b m ds = some c) : W.charOk c = true := by
 unfold tailN at h
 by_cases h0 : ds.length < 1 ∨ m < ds.length
 · rw [if_pos h0] at h; cases h
 · rw [if_neg h0] at h
   cases hn : numB b 0 ds with
   | none => rw [hn] at h; cases h
   | some n =>
     rw [hn] at h
     simp only at h
     by_cases hs : stands (n : Int) = true
     · rw [if_pos hs] at h; cases h; exact stands_ok hs
     · rw [if_neg hs] at h; cases h
theorem number_ok {l : List UInt8} {c : Int} (h : number l = some c) : W.charOk c = true := by
 cases hx : [120].isPrefixOf l
 · rw [number_dec hx] at h; exact tailN_ok h
 · match l, hx with
   | a :: r, hh =>
     simp only [List.isPrefixOf, Bool.and_true, beq_iff_eq] at hh
     rw [number_hex (l := a :: r) (r := r) (by rw [hh])] at h; exact tailN_ok h
theorem entity_ok {l : List UInt8} {c : Int} (h : entity l = some c) : W.charOk c = true := by
 unfold entity at h
 repeat' split at h
 all_goals first | (cases h; done) | (cases h; decide)
theorem ref_ok {l r : List UInt8} {c : Int} (h : ref l = .ok (c, r)) : W.charOk c = true := by
 unfold ref at h
 split at h
 · split at h
   · rename_i v hv
     cases h
     unfold refOf at hv
     split at hv
     · exact number_ok hv
     · exact entity_ok hv
   · cases h
 · cases h
end X
theorem Rd.build {w W W' : World} {R p c b : Nat} {s : ByteArray} (h : Rd w R s p c W) (hb : Below b W W') (hB : w.heap.size ≤ b) : Rd w R s p c W' :=
 ⟨⟨hb.os.trans h.g.os, hb.tape.trans h.g.tape, hb.output.trans h.g.output, Nat.le_trans h.g.size hb.size, fun k hk hne => (hb.block k (by omega)).trans (h.g.block k hk hne)⟩, by rw [hb.block _ (by have := h.lt; omega)]; exact h.r, h.lt⟩
theorem value_any {R p c B : Nat} {s : ByteArray} {W : World} (h : Rd W R s p c W) (hp : p ≤ s.size) (hs : s.size ≤ 1000000000000) (hG : Ground B W) (hB : B ≤ R) :
   Calls Tryz.prog 57 #[.pointer (some ⟨R, 0, none⟩)] W (Ends W R s c (X.value (rest s p)) (fun l => .string (X.ba l))) := by
 obtain ⟨RES, hRES⟩ : ∃ x, X.value (rest s p) = x := ⟨_, rfl⟩
 rw [hRES]
 have HLT := hid h.lt
 have HG := hid hG
 have HR := hid h
 have cT1 := take_l (k := 1) [34] ⟨#[34]⟩ rfl rfl h hp hs
 clear h hG
 go_enter Tryz.func57, Tryz.ntmps57
 go_wp2_with fail
 refine cT1.mono ?_
 rintro e w1 (⟨g1, g2, rfl, g3⟩ | ⟨g1, rfl, g3⟩)
 · have HE1 : Hid (s.size - (p + 1) < (rest s p).length + 1 ∧ p + 1 ≤ s.size ∧ ([] : List UInt8).length ≤ 4 * (p + 1) ∧ X.valIn 34 ((rest s p).length + 1) [] (rest s (p + 1)) = RES) := by
     refine ⟨by rw [rest_len]; omega, g2, Nat.zero_le _, ?_⟩
     rw [← hRES, X.value, if_pos g1, rest_drop]
   have HR1 := hid (HR.out.trans g3)
   clear g1 g2 g3 cT1 hRES HR
   go_wp2_with fail
   have HR2 := hid (HR1.out.alloc (.cells #[.pointer none, .slice none 0 0] 130))
   have HH2 := hid (holds_fresh w1)
   have HWB : Hid (W.heap.size ≤ w1.heap.size) := HR1.out.g.size
   obtain ⟨b, hb⟩ : ∃ b, w1.heap.size = b := ⟨_, rfl⟩
   rw [hb] at HH2 HWB ⊢
   clear HR1 hb
   go_loopw [5] (fun v5 wr => ∃ (q k : Nat) (acc : List UInt8), Hid (s.size - q < k ∧ q ≤ s.size ∧ acc.length ≤ 4 * q ∧ X.valIn 34 k acc (rest s q) = RES) ∧ Hid (Rd W R s q c wr) ∧ Hid (Holds b b acc wr)) (fun _ wr => s.size - posOf wr R)
   case atStart => exact ⟨_, _, [], HE1, HR2, HH2⟩
   case round =>
     obtain ⟨q, k, acc, HI, HQ, HB⟩ := hrel
     clear HE1 HR2 HH2
     obtain ⟨h1, h2, h4, h3⟩ := HI.out
     obtain ⟨k, rfl⟩ : ∃ k', k = k' + 1 := ⟨k - 1, by omega⟩
     have cT := take_l (k := 1) [34] ⟨#[34]⟩ rfl rfl HQ.out.own h2 hs
     have HPOS := hid HQ.out.pos
     clear h1 h3
     go_wp2_with fail
     refine cT.mono ?_
     rintro e w2 (⟨g1, g2, rfl, g3⟩ | ⟨g1, rfl, g3⟩)
     · have HE : Hid (RES = .ok (acc, rest s (q + 1)) ∧ s.size - (rest s (q + 1)).length = q + 1) := by
         refine ⟨?_, by rw [rest_len]; omega⟩
         rw [← HI.out.2.2.2, X.valIn, if_pos g1, rest_drop]
       have H1 := hid (HQ.out.trans g3)
       have HB1 := hid (HB.out.grown g3.g (Nat.lt_of_lt_of_le HLT.out HWB.out))
       have cS := string_any b b acc _ HB1.out HB1.out.bw
       clear g1 g2 g3 cT
       go_wp2_with fail
       refine cS.mono ?_
       rintro e w3 ⟨rfl, -, hbl, -⟩
       have H2 := hid (H1.out.build hbl HWB.out)
       clear hbl cS
       go_wp2_with fail
       go_ret
       exact Or.inl ⟨_, _, HE.out.1, rfl, by rw [HE.out.2]; exact H2.out⟩
     · have H1 := hid (HQ.out.below g3)
       have HB1 := hid (HB.out.after g3)
       have HN1 : Hid (¬ [34].isPrefixOf (rest s q) = true) := by show ¬ _; rw [g1]; decide
       have cN := next_l [60] ⟨#[60]⟩ rfl H1.out.own h2
       clear g1 g3 cT
       cases hb : [60].isPrefixOf (rest s q)
       · rw [hb] at cN
         go_wp2_with fail
         refine cN.mono ?_
         rintro e w3 ⟨rfl, g3⟩
         have H2 := hid (H1.out.below g3)
         have HB2 := hid (HB1.out.after g3)
         have cN2 := next_l [38] ⟨#[38]⟩ rfl H2.out.own h2
         clear g3 cN H1 HB1
         cases ha : [38].isPrefixOf (rest s q)
         · rw [ha] at cN2
           have HE : Hid (RES = (match X.char (rest s q) with | .error e => .error e | .ok (c, r) => X.valIn 34 k (acc ++ Go.Proofs.YteejphiklpnjhaaGreatDoor.W.charL (if c < 32 then 32 else c)) r)) := by
             show _ = _
             rw [← HI.out.2.2.2, X.valIn, if_neg HN1.out, hb, ha]
             rfl
           have HF := hid (X.char_fair (rest s q))
           go_wp2_with fail
           refine cN2.mono ?_
           rintro e w4 ⟨rfl, g3⟩
           have H3 := hid (H2.out.below g3)
           have HB3 := hid (HB2.out.after g3)
           have cC := char_any H3.out.own h2 hs (HG.out.rd H3.out hB)
           clear g3 cN2 H2 HB2 ha hb
           go_wp2_with fail
           refine cC.mono ?_
           rintro e w5 (⟨x, r, hx, rfl, hr⟩ | ⟨n, e, hx, rfl, hr⟩)
           · have hsuf := (HF.out.1 _ _ hx).1
             have hlen := (HF.out.1 _ _ hx).2
             have hok := X.char_ok hx
             rw [rest_len] at hlen
             have hpos := rest_pos hsuf h2
             have hre := rest_suf hsuf
             obtain ⟨u, hu⟩ : ∃ u, s.size - r.length = u := ⟨_, rfl⟩
             rw [hu] at hr hpos hre
             have H4 := hid (H3.out.trans hr)
             have HB4 := hid (HB3.out.grown hr.g (Nat.lt_of_lt_of_le HLT.out HWB.out))
             obtain ⟨y, hy⟩ : ∃ y, (if x < 32 then 32 else x) = y := ⟨_, rfl⟩
             have hyok : Go.Proofs.YteejphiklpnjhaaGreatDoor.W.charOk y = true := by rw [← hy]; split; decide; exact hok
             have H5 : Hid (s.size - u < k ∧ u ≤ s.size ∧ (acc ++ Go.Proofs.YteejphiklpnjhaaGreatDoor.W.charL y).length ≤ 4 * u ∧ X.valIn 34 k (acc ++ Go.Proofs.YteejphiklpnjhaaGreatDoor.W.charL y) (rest s u) = RES) := by
               refine ⟨by have := HI.out.1; omega, hpos.2, ?_, ?_⟩
               · have := charL_le y
                 rw [List.length_append]
                 omega
               · rw [HE.out, hx, hre, ← hy]
             have H6 : Hid (s.size - u < s.size - q) := by show _ < _; omega
             have hw := writeRune_any b b acc y hyok _ HB4.out (by omega) HB4.out.bw
             have HY := hid hy
             clear hx hr hsuf hlen hpos hre hu cC HE HF hok hyok hy H3 HB3
             by_cases hlt : x < 32
             · have t0 : decide (x < 32) = true := decide_eq_true hlt
               have HY2 : Hid (32 = y) := by have := HY.out; rw [if_pos hlt] at this; exact this
               rw [← HY2.out] at hw
               clear hlt HY
               go_wp2_with fail
               refine hw.mono ?_
               rintro e w6 ⟨⟨nn, rfl⟩, gh, gb, -⟩
               rw [HY2.out] at gh
               have H7 := hid (H4.out.build gb HWB.out)
               have HB7 := hid gh
               clear gh gb hw H4 HB4
               go_wp2_with fail
               go_roundw
               case rel => exact ⟨_, k, _, H5, H7, HB7⟩
               case measure => rw [H7.out.pos, HPOS.out]; exact H6.out
             · have t0 : decide (x < 32) = false := decide_eq_false hlt
               have HY2 : Hid (x = y) := by have := HY.out; rw [if_neg hlt] at this; exact this
               rw [← HY2.out] at hw
               clear hlt HY
               go_wp2_with fail
               refine hw.mono ?_
               rintro e w6 ⟨⟨nn, rfl⟩, gh, gb, -⟩
               rw [HY2.out] at gh
               have H7 := hid (H4.out.build gb HWB.out)
               have HB7 := hid gh
               clear gh gb hw H4 HB4
               go_wp2_with fail
               go_roundw
               case rel => exact ⟨_, k, _, H5, H7, HB7⟩
               case measure => rw [H7.out.pos, HPOS.out]; exact H6.out
           · have HE2 : Hid (RES = .error (n, e)) := by show _ = _; rw [HE.out, hx]
             exact ⟨rfl, Or.inr ⟨_, _, HE2.out, rfl, H3.out.g.trans hr⟩⟩
         · rw [ha] at cN2
           have HE : Hid (RES = (match X.ref (rest s q) with | .error e => .error e | .ok (c, r) => X.valIn 34 k (acc ++ Go.Proofs.YteejphiklpnjhaaGreatDoor.W.charL c) r)) := by
             show _ = _
             rw [← HI.out.2.2.2, X.valIn, if_neg HN1.out, hb, ha]
             rfl
           have HF := hid (X.ref_fair (rest s q))
           have hq : q < s.size := by
             have := X.pre_len ha
             rw [rest_len] at this
             simp at this
             omega
           go_wp2_with fail
           refine cN2.mono ?_
           rintro e w4 ⟨rfl, g3⟩
           have H3 := hid (H2.out.below g3)
           have HB3 := hid (HB2.out.after g3)
           have cC := reference_any H3.out.own hq hs (HG.out.rd H3.out hB) hB
           clear g3 cN2 H2 HB2 ha hb hq
           go_wp2_with fail
           refine cC.mono ?_
           rintro e w5 (⟨y, r, hx, rfl, hr⟩ | ⟨n, e, hx, rfl, hr⟩)
           · have hsuf := (HF.out.1 _ _ hx).1
             have hlen := (HF.out.1 _ _ hx).2
             have hok := X.ref_ok hx
             rw [rest_len] at hlen
             have hpos := rest_pos hsuf h2
             have hre := rest_suf hsuf
             obtain ⟨u, hu⟩ : ∃ u, s.size - r.length = u := ⟨_, rfl⟩
             rw [hu] at hr hpos hre
             have H4 := hid (H3.out.trans hr)
             have HB4 := hid (HB3.out.grown hr.g (Nat.lt_of_lt_of_le HLT.out HWB.out))
             have H5 : Hid (s.size - u < k ∧ u ≤ s.size ∧ (acc ++ Go.Proofs.YteejphiklpnjhaaGreatDoor.W.charL y).length ≤ 4 * u ∧ X.valIn 34 k (acc ++ Go.Proofs.YteejphiklpnjhaaGreatDoor.W.charL y) (rest s u) = RES) := by
               refine ⟨by have := HI.out.1; omega, hpos.2, ?_, ?_⟩
               · have := charL_le y
                 rw [List.length_append]
                 omega
               · rw [HE.out, hx, hre]
             have H6 : Hid (s.size - u < s.size - q) := by show _ < _; omega
             have hw := writeRune_any b b acc y hok _ HB4.out (by omega) HB4.out.bw
             clear hx hr hsuf hlen hpos hre hu cC HE HF hok H3 HB3
             go_wp2_with fail
             refine hw.mono ?_
             rintro e w6 ⟨⟨nn, rfl⟩, gh, gb, -⟩
             have H7 := hid (H4.out.build gb HWB.out)
             have HB7 := hid gh
             clear gh gb hw H4 HB4
             go_wp2_with fail
             go_roundw
             case rel => exact ⟨_, k, _, H5, H7, HB7⟩
             case measure => rw [H7.out.pos, HPOS.out]; exact H6.out
           · have HE2 : Hid (RES = .error (n, e)) := by show _ = _; rw [HE.out, hx]
             exact ⟨rfl, Or.inr ⟨_, _, HE2.out, rfl, H3.out.g.trans hr⟩⟩
       · rw [hb] at cN
         have HE : Hid (RES = .error (X.bad (rest s q))) := by
           show _ = _
           rw [← HI.out.2.2.2, X.valIn, if_neg HN1.out, if_pos hb]
         clear hb
         go_wp2_with fail
         refine cN.mono ?_
         rintro e w3 ⟨rfl, g3⟩
         have H2 := hid (H1.out.below g3)
         have cB := bad_any H2.out.own h2
         clear g3 cN H1
         go_wp2_with fail
         refine cB.mono ?_
         rintro e w3 ⟨rfl, hbl⟩
         exact ⟨rfl, Or.inr ⟨_, _, HE.out, rfl, (H2.out.below hbl).g⟩⟩
 · have HR0 := hid (HR.out.below g3)
   have cT2 := take_l (k := 1) [39] ⟨#[39]⟩ rfl rfl HR0.out.own hp hs
   have HN0 : Hid (¬ [34].isPrefixOf (rest s p) = true) := by show ¬ _; rw [g1]; decide
   clear g1 g3 cT1 HR
   go_wp2_with fail
   refine cT2.mono ?_
   rintro e w1 (⟨g1, g2, rfl, g3⟩ | ⟨g1, rfl, g3⟩)
   · have HE1 : Hid (s.size - (p + 1) < (rest s p).length + 1 ∧ p + 1 ≤ s.size ∧ ([] : List UInt8).length ≤ 4 * (p + 1) ∧ X.valIn 39 ((rest s p).length + 1) [] (rest s (p + 1)) = RES) := by
       refine ⟨by rw [rest_len]; omega, g2, Nat.zero_le _, ?_⟩
       rw [← hRES, X.value, if_neg HN0.out, if_pos g1, rest_drop]
     have HR1 := hid (HR0.out.trans g3)
     clear g1 g2 g3 cT2 hRES HR0
     go_wp2_with fail
     have HR2 := hid (HR1.out.alloc (.cells #[.pointer none, .slice none 0 0] 130))
     have HH2 := hid (holds_fresh w1)
     have HWB : Hid (W.heap.size ≤ w1.heap.size) := HR1.out.g.size
     obtain ⟨b, hb⟩ : ∃ b, w1.heap.size = b := ⟨_, rfl⟩
     rw [hb] at HH2 HWB ⊢
     clear HR1 hb
     go_loopw [5] (fun v5 wr => ∃ (q k : Nat) (acc : List UInt8), Hid (s.size - q < k ∧ q ≤ s.size ∧ acc.length ≤ 4 * q ∧ X.valIn 39 k acc (rest s q) = RES) ∧ Hid (Rd W R s q c wr) ∧ Hid (Holds b b acc wr)) (fun _ wr => s.size - posOf wr R)
     case atStart => exact ⟨_, _, [], HE1, HR2, HH2⟩
     case round =>
       obtain ⟨q, k, acc, HI, HQ, HB⟩ := hrel
       clear HE1 HR2 HH2
       obtain ⟨h1, h2, h4, h3⟩ := HI.out
       obtain ⟨k, rfl⟩ : ∃ k', k = k' + 1 := ⟨k - 1, by omega⟩
       have cT := take_l (k := 1) [39] ⟨#[39]⟩ rfl rfl HQ.out.own h2 hs
       have HPOS := hid HQ.out.pos
       clear h1 h3
       go_wp2_with fail
       refine cT.mono ?_
       rintro e w2 (⟨g1, g2, rfl, g3⟩ | ⟨g1, rfl, g3⟩)
       · have HE : Hid (RES = .ok (acc, rest s (q + 1)) ∧ s.size - (rest s (q + 1)).length = q + 1) := by
           refine ⟨?_, by rw [rest_len]; omega⟩
           rw [← HI.out.2.2.2, X.valIn, if_pos g1, rest_drop]
         have H1 := hid (HQ.out.trans g3)
         have HB1 := hid (HB.out.grown g3.g (Nat.lt_of_lt_of_le HLT.out HWB.out))
         have cS := string_any b b acc _ HB1.out HB1.out.bw
         clear g1 g2 g3 cT
         go_wp2_with fail
         refine cS.mono ?_
         rintro e w3 ⟨rfl, -, hbl, -⟩
         have H2 := hid (H1.out.build hbl HWB.out)
         clear hbl cS
         go_wp2_with fail
         go_ret
         exact Or.inl ⟨_, _, HE.out.1, rfl, by rw [HE.out.2]; exact H2.out⟩
       · have H1 := hid (HQ.out.below g3)
         have HB1 := hid (HB.out.after g3)
         have HN1 : Hid (¬ [39].isPrefixOf (rest s q) = true) := by show ¬ _; rw [g1]; decide
         have cN := next_l [60] ⟨#[60]⟩ rfl H1.out.own h2
         clear g1 g3 cT
         cases hb : [60].isPrefixOf (rest s q)
         · rw [hb] at cN
           go_wp2_with fail
           refine cN.mono ?_
           rintro e w3 ⟨rfl, g3⟩
           have H2 := hid (H1.out.below g3)
           have HB2 := hid (HB1.out.after g3)
           have cN2 := next_l [38] ⟨#[38]⟩ rfl H2.out.own h2
           clear g3 cN H1 HB1
           cases ha : [38].isPrefixOf (rest s q)
           · rw [ha] at cN2
             have HE : Hid (RES = (match X.char (rest s q) with | .error e => .error e | .ok (c, r) => X.valIn 39 k (acc ++ Go.Proofs.YteejphiklpnjhaaGreatDoor.W.charL (if c < 32 then 32 else c)) r)) := by
               show _ = _
               rw [← HI.out.2.2.2, X.valIn, if_neg HN1.out, hb, ha]
               rfl
             have HF := hid (X.char_fair (rest s q))
             go_wp2_with fail
             refine cN2.mono ?_
             rintro e w4 ⟨rfl, g3⟩
             have H3 := hid (H2.out.below g3)
             have HB3 := hid (HB2.out.after g3)
             have cC := char_any H3.out.own h2 hs (HG.out.rd H3.out hB)
             clear g3 cN2 H2 HB2 ha hb
             go_wp2_with fail
             refine cC.mono ?_
             rintro e w5 (⟨x, r, hx, rfl, hr⟩ | ⟨n, e, hx, rfl, hr⟩)
             · have hsuf := (HF.out.1 _ _ hx).1
               have hlen := (HF.out.1 _ _ hx).2
               have hok := X.char_ok hx
               rw [rest_len] at hlen
               have hpos := rest_pos hsuf h2
               have hre := rest_suf hsuf
               obtain ⟨u, hu⟩ : ∃ u, s.size - r.length = u := ⟨_, rfl⟩
               rw [hu] at hr hpos hre
               have H4 := hid (H3.out.trans hr)
               have HB4 := hid (HB3.out.grown hr.g (Nat.lt_of_lt_of_le HLT.out HWB.out))
               obtain ⟨y, hy⟩ : ∃ y, (if x < 32 then 32 else x) = y := ⟨_, rfl⟩
               have hyok : Go.Proofs.YteejphiklpnjhaaGreatDoor.W.charOk y = true := by rw [← hy]; split; decide; exact hok
               have H5 : Hid (s.size - u < k ∧ u ≤ s.size ∧ (acc ++ Go.Proofs.YteejphiklpnjhaaGreatDoor.W.charL y).length ≤ 4 * u ∧ X.valIn 39 k (acc ++ Go.Proofs.YteejphiklpnjhaaGreatDoor.W.charL y) (rest s u) = RES) := by
                 refine ⟨by have := HI.out.1; omega, hpos.2, ?_, ?_⟩
                 · have := charL_le y
                   rw [List.length_append]
                   omega
                 · rw [HE.out, hx, hre, ← hy]
               have H6 : Hid (s.size - u < s.size - q) := by show _ < _; omega
               have hw := writeRune_any b b acc y hyok _ HB4.out (by omega) HB4.out.bw
               have HY := hid hy
               clear hx hr hsuf hlen hpos hre hu cC HE HF hok hyok hy H3 HB3
               by_cases hlt : x < 32
               · have t0 : decide (x < 32) = true := decide_eq_true hlt
                 have HY2 : Hid (32 = y) := by have := HY.out; rw [if_pos hlt] at this; exact this
                 rw [← HY2.out] at hw
                 clear hlt HY
                 go_wp2_with fail
                 refine hw.mono ?_
                 rintro e w6 ⟨⟨nn, rfl⟩, gh, gb, -⟩
                 rw [HY2.out] at gh
                 have H7 := hid (H4.out.build gb HWB.out)
                 have HB7 := hid gh
                 clear gh gb hw H4 HB4
                 go_wp2_with fail
                 go_roundw
                 case rel => exact ⟨_, k, _, H5, H7, HB7⟩
                 case measure => rw [H7.out.pos, HPOS.out]; exact H6.out
               · have t0 : decide (x < 32) = false := decide_eq_false hlt
                 have HY2 : Hid (x = y) := by have := HY.out; rw [if_neg hlt] at this; exact this
                 rw [← HY2.out] at hw
                 clear hlt HY
                 go_wp2_with fail
                 refine hw.mono ?_
                 rintro e w6 ⟨⟨nn, rfl⟩, gh, gb, -⟩
                 rw [HY2.out] at gh
                 have H7 := hid (H4.out.build gb HWB.out)
                 have HB7 := hid gh
                 clear gh gb hw H4 HB4
                 go_wp2_with fail
                 go_roundw
                 case rel => exact ⟨_, k, _, H5, H7, HB7⟩
                 case measure => rw [H7.out.pos, HPOS.out]; exact H6.out
             · have HE2 : Hid (RES = .error (n, e)) := by show _ = _; rw [HE.out, hx]
               exact ⟨rfl, Or.inr ⟨_, _, HE2.out, rfl, H3.out.g.trans hr⟩⟩
           · rw [ha] at cN2
             have HE : Hid (RES = (match X.ref (rest s q) with | .error e => .error e | .ok (c, r) => X.valIn 39 k (acc ++ Go.Proofs.YteejphiklpnjhaaGreatDoor.W.charL c) r)) := by
               show _ = _
               rw [← HI.out.2.2.2, X.valIn, if_neg HN1.out, hb, ha]
               rfl
             have HF := hid (X.ref_fair (rest s q))
             have hq : q < s.size := by
               have := X.pre_len ha
               rw [rest_len] at this
               simp at this
               omega
             go_wp2_with fail
             refine cN2.mono ?_
             rintro e w4 ⟨rfl, g3⟩
             have H3 := hid (H2.out.below g3)
             have HB3 := hid (HB2.out.after g3)
             have cC := reference_any H3.out.own hq hs (HG.out.rd H3.out hB) hB
             clear g3 cN2 H2 HB2 ha hb hq
             go_wp2_with fail
             refine cC.mono ?_
             rintro e w5 (⟨y, r, hx, rfl, hr⟩ | ⟨n, e, hx, rfl, hr⟩)
             · have hsuf := (HF.out.1 _ _ hx).1
               have hlen := (HF.out.1 _ _ hx).2
               have hok := X.ref_ok hx
               rw [rest_len] at hlen
               have hpos := rest_pos hsuf h2
               have hre := rest_suf hsuf
               obtain ⟨u, hu⟩ : ∃ u, s.size - r.length = u := ⟨_, rfl⟩
               rw [hu] at hr hpos hre
               have H4 := hid (H3.out.trans hr)
               have HB4 := hid (HB3.out.grown hr.g (Nat.lt_of_lt_of_le HLT.out HWB.out))
               have H5 : Hid (s.size - u < k ∧ u ≤ s.size ∧ (acc ++ Go.Proofs.YteejphiklpnjhaaGreatDoor.W.charL y).length ≤ 4 * u ∧ X.valIn 39 k (acc ++ Go.Proofs.YteejphiklpnjhaaGreatDoor.W.charL y) (rest s u) = RES) := by
                 refine ⟨by have := HI.out.1; omega, hpos.2, ?_, ?_⟩
                 · have := charL_le y
                   rw [List.length_append]
                   omega
                 · rw [HE.out, hx, hre]
               have H6 : Hid (s.size - u < s.size - q) := by show _ < _; omega
               have hw := writeRune_any b b acc y hok _ HB4.out (by omega) HB4.out.bw
               clear hx hr hsuf hlen hpos hre hu cC HE HF hok H3 HB3
               go_wp2_with fail
               refine hw.mono ?_
               rintro e w6 ⟨⟨nn, rfl⟩, gh, gb, -⟩
               have H7 := hid (H4.out.build gb HWB.out)
               have HB7 := hid gh
               clear gh gb hw H4 HB4
               go_wp2_with fail
               go_roundw
               case rel => exact ⟨_, k, _, H5, H7, HB7⟩
               case measure => rw [H7.out.pos, HPOS.out]; exact H6.out
             · have HE2 : Hid (RES = .error (n, e)) := by show _ = _; rw [HE.out, hx]
               exact ⟨rfl, Or.inr ⟨_, _, HE2.out, rfl, H3.out.g.trans hr⟩⟩
         · rw [hb] at cN
           have HE : Hid (RES = .error (X.bad (rest s q))) := by
             show _ = _
             rw [← HI.out.2.2.2, X.valIn, if_neg HN1.out, if_pos hb]
           clear hb
           go_wp2_with fail
           refine cN.mono ?_
           rintro e w3 ⟨rfl, g3⟩
           have H2 := hid (H1.out.below g3)
           have cB := bad_any H2.out.own h2
           clear g3 cN H1
           go_wp2_with fail
           refine cB.mono ?_
           rintro e w3 ⟨rfl, hbl⟩
           exact ⟨rfl, Or.inr ⟨_, _, HE.out, rfl, (H2.out.below hbl).g⟩⟩
   · have HE : Hid (RES = .error (X.bad (rest s p))) := by
       show _ = _
       rw [← hRES, X.value, if_neg HN0.out, if_neg (by rw [g1]; decide)]
     have HR1 := hid (HR0.out.below g3)
     have cB := bad_any HR1.out.own hp
     clear g1 g3 cT2 hRES HR0
     go_wp2_with fail
     refine cB.mono ?_
     rintro e w2 ⟨rfl, hbl⟩
     exact ⟨rfl, Or.inr ⟨_, _, HE.out, rfl, (HR1.out.below hbl).g⟩⟩
end Go.Proofs.YteejphiklpnjhaaGreatDoor
namespace Go.Proofs.YteejphiklpnjhaaGreatDoor
set_option maxRecDepth 100000
set_option maxHeartbeats 16000000
open Go.RowKit
open Go.Lib (hid)
theorem toList_inj {a b : ByteArray} : a.toList = b.toList ↔ a = b := by
 constructor
 · intro h
   have h' : a.data.toList = b.data.toList := by simpa [ByteArray.toList_eq] using h
   obtain ⟨⟨x⟩⟩ := a
   obtain ⟨⟨y⟩⟩ := b
   simp only at h'
   rw [h']
 · intro h; rw [h]
theorem ba_inj {a b : List UInt8} : X.ba a = X.ba b ↔ a = b := by
 constructor
 · intro h
   have := congrArg (fun z : ByteArray => z.data.toList) h
   simpa [X.ba] using this
 · intro h; rw [h]
theorem same_any (X : Nat) (W : World) (a b : ByteArray) (x : Int) (v a1 b1 : ByteArray) (h0 : W.cell? ⟨X, 0, none⟩ = some (.string a1)) (h1 : W.cell? ⟨X, 1, none⟩ = some (.string b1)) :
   Calls Tryz.prog 56 #[.agg #[.string a, .string b, .int .i64 x, .string v], .pointer (some ⟨X, 0, none⟩)] W fun en W' => en = .returned (.bool (decide (a = a1 ∧ b = b1))) ∧ Below W.heap.size W W' := by
 have hX : X < W.heap.size := Lib.lt_of_cell h0
 obtain ⟨w1, hw1⟩ : ∃ w1, W.alloc (.cells #[.string a, .string b, .int .i64 x, .string v] 120) = w1 := ⟨_, rfl⟩
 have HB : Hid (Below W.heap.size W w1) := by show Below _ _ _; rw [← hw1]; exact (Below.refl _ W).alloc (Nat.le_refl _) _
 have hr : w1.heap[W.heap.size]? = some (.cells #[.string a, .string b, .int .i64 x, .string v] 120 (0, 0)) := by rw [← hw1]; exact heap_alloc_new W _
 obtain ⟨d0, d1, -, -⟩ := row4 hr
 have c0 : w1.cell? ⟨X, 0, none⟩ = some (.string a1) := by rw [HB.out.cell (p := ⟨X, 0, none⟩) hX]; exact h0
 have c1 : w1.cell? ⟨X, 1, none⟩ = some (.string b1) := by rw [HB.out.cell (p := ⟨X, 1, none⟩) hX]; exact h1
 have HW := hid hw1
 clear hw1 h0 h1 hr hX
 go_enter Tryz.func56, Tryz.ntmps56
 go_upto_region 1 with fail
 rw [HW.out]
 go_wp2_with fail
 · rename_i g1 g2
   rw [toList_inj] at g1 g2
   rw [decide_eq_true (⟨g1, g2⟩ : a = a1 ∧ b = b1)]
   go_ret
   exact ⟨rfl, HB.out⟩
 · rename_i g1 g2
   rw [toList_inj] at g1 g2
   rw [decide_eq_false (fun h : a = a1 ∧ b = b1 => g2 h.2)]
   go_ret
   exact ⟨rfl, HB.out⟩
 · rename_i g1
   rw [toList_inj] at g1
   rw [decide_eq_false (fun h : a = a1 ∧ b = b1 => g1 h.1)]
   go_ret
   exact ⟨rfl, HB.out⟩
def rawC (s : ByteArray) (x : X.Raw) : List Value := [.string (X.ba x.pre), .string (X.ba x.loc), .int .i64 ((s.size - x.n : Nat) : Int), .string (X.ba x.val)]
def rawsC (s : ByteArray) (l : List X.Raw) : List Value := l.flatMap (rawC s)
theorem rawsC_snoc (s : ByteArray) (l : List X.Raw) (x : X.Raw) : rawsC s (l ++ [x]) = rawsC s l ++ rawC s x := by
 unfold rawsC
 rw [List.flatMap_append]
 simp
theorem rawsC_at (s : ByteArray) : ∀ (l : List X.Raw) (j : Nat) (x : X.Raw), l[j]? = some x → ∀ i u, (rawC s x)[i]? = some u → (rawsC s l)[j * 4 + i]? = some u
 | y :: r, 0, x, h, i, u, hu => by
   simp only [List.getElem?_cons_zero, Option.some.injEq] at h
   subst h
   unfold rawsC
   rw [List.flatMap_cons, Nat.zero_mul, Nat.zero_add, List.getElem?_append_left (by have := (List.getElem?_eq_some_iff.1 hu).1; exact this)]
   exact hu
 | y :: r, j + 1, x, h, i, u, hu => by
   have := rawsC_at s r j x (by simpa using h) i u hu
   unfold rawsC at this ⊢
   rw [List.flatMap_cons, List.getElem?_append_right (by show 4 ≤ _; omega)]
   show (List.flatMap (rawC s) r)[(j + 1) * 4 + i - 4]? = _
   rw [show (j + 1) * 4 + i - 4 = j * 4 + i by omega]
   exact this
def RawsIn (w : World) (s : ByteArray) (l : List X.Raw) (v : Value) : Prop :=
 (l = [] ∧ ∃ a c, v = .slice a 0 c) ∨ ∃ g c, v = .slice (some ⟨g, 0, none⟩) l.length c ∧ g < w.heap.size ∧ ∀ j x, l[j]? = some x → ∀ i u, (rawC s x)[i]? = some u → w.cell? ⟨g, j * 4 + i, none⟩ = some u
theorem RawsIn.below {w w' : World} {s : ByteArray} {l : List X.Raw} {v : Value} (h : RawsIn w s l v) (hb : Below w.heap.size w w') : RawsIn w' s l v := by
 rcases h with h | ⟨g, c, h1, h2, h3⟩
 · exact Or.inl h
 · exact Or.inr ⟨g, c, h1, Nat.lt_of_lt_of_le h2 hb.size, fun j x hj i u hu => by rw [hb.cell (p := ⟨g, j * 4 + i, none⟩) h2]; exact h3 j x hj i u hu⟩
theorem RawsIn.of {w : World} {s : ByteArray} {l : List X.Raw} {v : Value} {B : Nat} (h : w.ownsRow B 120 4 v l.length (rawsC s l)) : RawsIn w s l v := by
 have hc := fun g (hg : v.ownBlock = some g) => World.ownsRow.cells h hg
 have hlt := World.ownsRow.lt h
 rcases h.2 with ⟨rfl, h0⟩ | ⟨g, cap, cur, rfl, _, hgr, hcap, _⟩
 · exact Or.inl ⟨List.eq_nil_of_length_eq_zero h0, none, 0, rfl⟩
 · refine Or.inr ⟨g, cap, rfl, (hlt g rfl).2, fun j x hj i u hu => ?_⟩
   have := hc g rfl (j * 4 + i) u (rawsC_at s l j x hj i u hu)
   have e : (⟨g, 0, none⟩ : Addr).add (j * 4 + i) = ⟨g, j * 4 + i, none⟩ := by
    unfold Addr.add
    split <;> simp_all
   rw [e] at this
   exact this
def hasName (l : List X.Raw) (nm : List UInt8 × List UInt8) : Bool := l.any (fun y => decide (y.pre = nm.1 ∧ y.loc = nm.2))
theorem indexFunc_any (s : ByteArray) (l : List X.Raw) (v : Value) (Y : Nat) (nm : List UInt8 × List UInt8) (hl : l.length ≤ 1000) (W : World) (h : RawsIn W s l v) (h0 : W.cell? ⟨Y, 0, none⟩ = some (.string (X.ba nm.1))) (h1 : W.cell? ⟨Y, 1, none⟩ = some (.string (X.ba nm.2))) :
  Calls Tryz.prog 81 #[v, .func (.func 56) #[] #[.pointer (some ⟨Y, 0, none⟩)]] W fun en W' => (∃ j : Int, en = .returned (.int .i64 j) ∧ decide (0 ≤ j) = hasName l nm) ∧ Below W.heap.size W W' := by
 have hX : Y < W.heap.size := Lib.lt_of_cell h0
 obtain ⟨n, hn⟩ : ∃ n, l.length = n := ⟨_, rfl⟩
 have hv : ∃ a c, v = .slice a n c := by
  rcases h with ⟨rfl, a, c, rfl⟩ | ⟨g, c, rfl, _⟩
  · exact ⟨a, c, by rw [← hn]; rfl⟩
  · exact ⟨_, c, by rw [← hn]⟩
 obtain ⟨ad, cp, rfl⟩ := hv
 have HV := hid h
 have HX := hid hX
 have H0 := hid h0
 have H1 := hid h1
 have HN := hid hn
 have hcall : ∀ args w, (callFunc 56 args).run Tryz.prog w = .ok (.enter 56 args) w := enters_of Tryz.func56 (by kernel_rfl) rfl
 rw [hn] at hl
 clear h h0 h1 hX hn
 go_enter Tryz.func81, Tryz.ntmps81
 go_wp2_with fail
 go_loopw [8, 5] (fun vi v5 wr => ∃ (i : Nat), vi = .int .i64 i ∧ Hid (i ≤ n ∧ hasName (l.take i) nm = false) ∧ Hid (Below W.heap.size W wr)) (fun vi _ _ => n - (intOf vi).toNat)
 case atStart => exact ⟨0, rfl, hid ⟨Nat.zero_le _, rfl⟩, hid (Below.refl _ W)⟩
 case round =>
  obtain ⟨i, rfl, HI, HB⟩ := hrel
  rcases Nat.lt_or_ge i n with hlt | hge
  · have t0 : decide ((i : Int) < (n : Int)) = true := decide_eq_true (by omega)
    have hv2 := HV.out
    obtain ⟨g, rfl, hg, hc⟩ : ∃ g, ad = some ⟨g, 0, none⟩ ∧ g < W.heap.size ∧ ∀ j x, l[j]? = some x → ∀ i u, (rawC s x)[i]? = some u → W.cell? ⟨g, j * 4 + i, none⟩ = some u := by
      rcases hv2 with ⟨rfl, _⟩ | ⟨g, c, he, h2, h3⟩
      · have := HN.out; simp at this; omega
      · simp only [Value.slice.injEq] at he; exact ⟨g, he.1, h2, h3⟩
    have hlt' : i < l.length := by rw [HN.out]; exact hlt
    obtain ⟨x, hx⟩ : ∃ x, l[i]? = some x := ⟨_, List.getElem?_eq_getElem hlt'⟩
    have cc := fun k u (hu : (rawC s x)[k]? = some u) => (HB.out.cell (p := ⟨g, i * 4 + k, none⟩) hg).trans (hc i x hx k u hu)
    have d0 := cc 0 _ rfl
    have d1 := cc 1 _ rfl
    have d2 := cc 2 _ rfl
    have d3 := cc 3 _ rfl
    have cS := same_any Y wr (X.ba x.pre) (X.ba x.loc) ((s.size - x.n : Nat) : Int) (X.ba x.val) _ _ ((HB.out.cell (p := ⟨Y, 0, none⟩) HX.out).trans H0.out) ((HB.out.cell (p := ⟨Y, 1, none⟩) HX.out).trans H1.out)
    have e4 : i * 4 + 0 = i * 4 := Nat.add_zero _
    rw [e4] at d0
    have hb0 : decide (X.ba x.pre = X.ba nm.1 ∧ X.ba x.loc = X.ba nm.2) = decide (x.pre = nm.1 ∧ x.loc = nm.2) := decide_eq_decide.2 (by rw [ba_inj, ba_inj])
    rw [hb0] at cS
    have hb : Hid (hasName (l.take (i + 1)) nm = decide (x.pre = nm.1 ∧ x.loc = nm.2)) := by
      show _ = _
      have := HI.out.2
      unfold hasName at this ⊢
      rw [List.take_add_one, List.any_append, this, hx]
      simp
    have hb2 : Hid (decide (x.pre = nm.1 ∧ x.loc = nm.2) = true → hasName l nm = true) := by
      intro h
      unfold hasName
      rw [List.any_eq_true]
      exact ⟨x, List.mem_of_getElem? hx, h⟩
    obtain ⟨b, hbe⟩ : ∃ b, decide (x.pre = nm.1 ∧ x.loc = nm.2) = b := ⟨_, rfl⟩
    rw [hbe] at cS hb hb2
    clear hv2 hc cc e4 hb0 hbe
    go_wp2_with fail
    refine cS.mono ?_
    rintro e w2 ⟨rfl, hbl⟩
    have HB2 : Hid (Below W.heap.size W w2) := HB.out.trans (hbl.mono HB.out.size)
    clear hbl cS d0 d1 d2 d3
    cases b with
    | true =>
      have HE := hid (hb2.out rfl)
      clear hb hb2
      go_wp2_with fail
      go_ret
      exact ⟨⟨i, rfl, by rw [HE.out]; exact decide_eq_true (by omega)⟩, HB2.out⟩
    | false =>
      have HE : Hid (i + 1 ≤ n ∧ hasName (l.take (i + 1)) nm = false) := ⟨hlt, hb.out⟩
      obtain ⟨i1, hi1⟩ : ∃ i1, i + 1 = i1 := ⟨_, rfl⟩
      rw [hi1] at HE
      have e1 : IntKind.i64.wrap ((i : Int) + 1) = (i1 : Int) := by rw [IntKind.wrap_i64] <;> omega
      have HM : Hid (n - i1 < n - i) := by show _ < _; omega
      clear hb hb2 hi1
      go_wp2_with fail
      go_roundw
      case rel => exact ⟨i1, rfl, HE, HB2⟩
      case measure => simpa [intOf] using HM.out
  · have t0 : decide ((i : Int) < (n : Int)) = false := decide_eq_false (by omega)
    have HE : Hid (hasName l nm = false) := by
      have := HI.out.2
      rw [List.take_of_length_le (by rw [HN.out]; exact hge)] at this
      exact this
    go_wp2_with fail
    go_ret
    exact ⟨⟨-1, rfl, by rw [HE.out]; rfl⟩, HB.out⟩
theorem containsFunc_any (s : ByteArray) (l : List X.Raw) (v : Value) (Y : Nat) (nm : List UInt8 × List UInt8) (hl : l.length ≤ 1000) (W : World) (h : RawsIn W s l v) (h0 : W.cell? ⟨Y, 0, none⟩ = some (.string (X.ba nm.1))) (h1 : W.cell? ⟨Y, 1, none⟩ = some (.string (X.ba nm.2))) :
  Calls Tryz.prog 55 #[v, .func (.func 56) #[] #[.pointer (some ⟨Y, 0, none⟩)]] W fun en W' => en = .returned (.bool (hasName l nm)) ∧ Below W.heap.size W W' := by
 have cI := indexFunc_any s l v Y nm hl W h h0 h1
 have hv : ∃ a n c, v = .slice a n c := by
  rcases h with ⟨rfl, a, c, rfl⟩ | ⟨g, c, rfl, _⟩
  · exact ⟨a, _, c, rfl⟩
  · exact ⟨_, _, c, rfl⟩
 obtain ⟨ad, n, cp, rfl⟩ := hv
 obtain ⟨b, hb⟩ : ∃ b, hasName l nm = b := ⟨_, rfl⟩
 rw [hb] at cI ⊢
 clear h h0 h1 hl hb
 go_enter Tryz.func55, Tryz.ntmps55
 go_wp2_with fail
 refine cI.mono ?_
 rintro e w2 ⟨⟨j, rfl, hj⟩, hbl⟩
 have HB := hid hbl
 clear hbl cI
 cases b
 all_goals
  go_wp2_with fail
  go_ret
  exact ⟨rfl, HB.out⟩
end Go.Proofs.YteejphiklpnjhaaGreatDoor
namespace Go.Proofs.YteejphiklpnjhaaGreatDoor
set_option maxRecDepth 100000
set_option maxHeartbeats 16000000
open Go.RowKit
open Go.Lib (hid)
theorem infoRaw : (Tryz.prog.info? 120).map (fun i => (i.zero, i.size, i.bytes)) = some (some (.agg #[.string ⟨#[]⟩, .string ⟨#[]⟩, .int .i64 0, .string ⟨#[]⟩]), 4, 56) := by kernel_rfl
def ROwn (s : ByteArray) (B : Nat) (l : List X.Raw) (v : Value) (w : World) : Prop := w.ownsRow B 120 4 v l.length (rawsC s l)
section
variable {s : ByteArray} {B : Nat} {l : List X.Raw} {v : Value} {w w' : World}
theorem ROwn.below (h : ROwn s B l v w) (hb : Below w.heap.size w w') : ROwn s B l v w' :=
 World.ownsRow.kept (row := none) h ⟨hb.os, hb.tape, hb.output, hb.size, fun k hk _ => hb.block k hk⟩ (Classical.em _)
theorem ROwn.grown {R : Nat} (h : ROwn s B l v w) (g : w.grownBy w' (some R)) (hR : R < B) : ROwn s B l v w' :=
 World.ownsRow.kept h g (Or.inr fun e => by have := (World.ownsRow.lt h R e).1; omega)
theorem ROwn.put (h : ROwn s B l v w) {Y : Nat} (hY : v.ownBlock ≠ some Y) (i : Nat) (u : Value) : ROwn s B l v (w.setCell ⟨Y, i, none⟩ u) :=
 World.ownsRow.kept h (grownBy_set w Y i u) (Or.inr hY)
end
theorem attr_seq {α : Type} {out : List X.Raw} {l r : List UInt8} {nm : List UInt8 × List UInt8} (hn : X.name l = .ok (nm, r)) (g : X.Raw → List UInt8 → X.Res α) :
   (match X.attr out l with | .error e => (.error e : X.Res α) | .ok (x, r) => g x r) = if hasName out nm then .error (l.length, 6) else match X.must [61] (X.skip r) with
     | .error e => .error e
     | .ok (_, r2) => match X.value (X.skip r2) with
       | .error e => .error e
       | .ok (v, r3) => g ⟨nm.1, nm.2, l.length, v⟩ r3 := by
 unfold X.attr hasName
 rw [hn]
 simp only
 cases out.any (fun y => decide (y.pre = nm.1 ∧ y.loc = nm.2))
 · simp only [Bool.false_eq_true, if_false]
   cases X.must [61] (X.skip r) with
   | error e => rfl
   | ok y =>
     simp only
     cases X.value (X.skip y.2) with
     | error e => rfl
     | ok z => rfl
 · simp only [if_true]
def AttrsOf (W0 : World) (R : Nat) (s : ByteArray) (c : Nat) (x : X.Res (List X.Raw × Bool)) (en : Ending) (W : World) : Prop :=
 (∃ raws opn r v, x = .ok ((raws, opn), r) ∧ en = .returned (.tuple #[v, .bool opn]) ∧ raws.length ≤ 32 ∧ ROwn s W0.heap.size raws v W ∧ Rd W0 R s (s.size - r.length) c W) ∨
 (∃ n e, x = .error (n, e) ∧ en = .panicked (chain e ((s.size - n : Nat) : Int)) ∧ W0.grownBy W (some R))
theorem begins_rest {s : ByteArray} {p : Nat} (h : p < s.size) : X.begins (rest s p) = X.letter s[p] := by rw [rest_cons h]; rfl
theorem begins_nil {s : ByteArray} {p : Nat} (h : ¬ p < s.size) : X.begins (rest s p) = false := by rw [(rest_nil s p).2 (by omega)]; rfl
theorem attrs_any {R p c B f : Nat} {s : ByteArray} {W : World} (hf : s.size - p < f) (h : Rd W R s p c W) (hp : p ≤ s.size) (hs : s.size ≤ 1000000000000) (hG : Ground B W) (hB : B ≤ R) :
  Calls Tryz.prog 38 #[.pointer (some ⟨R, 0, none⟩)] W (AttrsOf W R s c (X.attrs f [] (rest s p))) := by
 obtain ⟨RES, hRES⟩ : ∃ x, X.attrs f [] (rest s p) = x := ⟨_, rfl⟩
 rw [hRES]
 have HLT := hid h.lt
 have HG := hid hG
 have HR := hid h
 have HI0 : Hid (s.size - p < f ∧ p ≤ s.size ∧ ([] : List X.Raw).length ≤ 32 ∧ X.attrs f [] (rest s p) = RES) := ⟨hf, hp, Nat.zero_le _, hRES⟩
 have HO0 : Hid (ROwn s W.heap.size [] (.slice none 0 0) W) := World.ownsRow_nil _ _ _ _
 clear h hG hf hp hRES
 go_enter Tryz.func38, Tryz.ntmps38
 go_wp2_with fail
 go_loopw [4, 5, 6] (fun v v5 v6 wr => ∃ (q k : Nat) (out : List X.Raw) (va : Option Addr) (vc : Nat), v = .slice va out.length vc ∧ Hid (s.size - q < k ∧ q ≤ s.size ∧ out.length ≤ 32 ∧ X.attrs k out (rest s q) = RES) ∧ Hid (Rd W R s q c wr) ∧ Hid (ROwn s W.heap.size out v wr)) (fun _ _ _ wr => s.size - posOf wr R)
 case atStart => exact ⟨_, _, [], none, 0, rfl, HI0, HR, HO0⟩
 case round =>
  obtain ⟨q, k, out, va, vc, rfl, HI, HQ, HO⟩ := hrel
  clear HI0 HR HO0
  obtain ⟨h1, h2, h4, h3⟩ := HI.out
  obtain ⟨k, rfl⟩ : ∃ k', k = k' + 1 := ⟨k - 1, by omega⟩
  obtain ⟨n, hn⟩ : ∃ n, out.length = n := ⟨_, rfl⟩
  have hnO : Hid (ROwn s W.heap.size out (.slice va n vc) wr) := hn ▸ HO
  rw [hn] at h4 ⊢
  clear HO
  have HO := hnO
  clear hnO
  have cBl := blanks_any HQ.out.own h2 hs
  have hsk := X.Suf.skip (rest s q)
  have hpos := rest_pos hsk h2
  have hre := rest_suf hsk
  obtain ⟨u, hu⟩ : ∃ u, s.size - (X.skip (rest s q)).length = u := ⟨_, rfl⟩
  rw [hu] at cBl hpos hre
  have hsk2 : (X.skip (rest s q)).length = s.size - u := by have := hsk.len; rw [rest_len] at this; omega
  obtain ⟨sm, hsm⟩ : ∃ sm, decide (q < u) = sm := ⟨_, rfl⟩
  rw [hsm] at cBl
  have HPOS := hid HQ.out.pos
  have HE0 : Hid (RES = (if [62].isPrefixOf (rest s u) then .ok ((out, true), rest s (u + 1))
    else if [47].isPrefixOf (rest s u) then
      match X.must [62] (rest s (u + 1)) with
      | .error e => .error e
      | .ok (_, r) => .ok ((out, false), r)
    else if s.size - u = s.size - q ∨ X.begins (rest s u) = false then .error (X.bad (rest s u))
    else if n = 32 then .error (s.size - u, 3)
    else match X.attr out (rest s u) with
      | .error e => .error e
      | .ok (x, r) => X.attrs k (out ++ [x]) r)) := by
    show _ = _
    rw [← h3, X.attrs, hre, rest_drop, rest_len, rest_len, hn]
    rfl
  have HU : Hid (q ≤ u ∧ u ≤ s.size) := hpos
  have hus := hpos.2
  have HN := hid hn
  have HSM : Hid (sm = decide (q < u)) := hsm.symm
  clear h1 h3 hsk hpos hre hu hsk2 hsm hn
  go_wp2_with fail
  refine cBl.mono ?_
  rintro e w1 ⟨rfl, g3⟩
  have H1 := hid (HQ.out.trans g3)
  have HO1 := hid (HO.out.grown g3.g HLT.out)
  have cT := take_l (k := 1) [62] ⟨#[62]⟩ rfl rfl H1.out.own hus hs
  clear g3 cBl HO
  go_wp2_with fail
  refine cT.mono ?_
  rintro e w2 (⟨g1, g2, rfl, g3⟩ | ⟨g1, rfl, g3⟩)
  · have HE : Hid (RES = .ok ((out, true), rest s (u + 1)) ∧ s.size - (rest s (u + 1)).length = u + 1) := by
      refine ⟨?_, by rw [rest_len]; omega⟩
      rw [HE0.out, if_pos g1]
    have H2 := hid (H1.out.trans g3)
    have HO2 := hid (HO1.out.grown g3.g HLT.out)
    clear g1 g2 g3 cT HE0 HO1
    go_wp2_with fail
    go_ret2
    exact Or.inl ⟨_, _, _, _, HE.out.1, rfl, by rw [HN.out]; exact h4, HO2.out, by rw [HE.out.2]; exact H2.out⟩
  · have H2 := hid (H1.out.below g3)
    have HO2 := hid (HO1.out.below g3)
    have HN1 : Hid (¬ [62].isPrefixOf (rest s u) = true) := by show ¬ _; rw [g1]; decide
    have cT2 := take_l (k := 1) [47] ⟨#[47]⟩ rfl rfl H2.out.own hus hs
    clear g1 g3 cT HO1
    go_wp2_with fail
    refine cT2.mono ?_
    rintro e w3 (⟨g1, g2, rfl, g3⟩ | ⟨g1, rfl, g3⟩)
    · have HE : Hid (RES = (match X.must [62] (rest s (u + 1)) with | .error e => .error e | .ok (_, r) => .ok ((out, false), r))) := by
        show _ = _
        rw [HE0.out, if_neg HN1.out, if_pos g1]
      have H3 := hid (H2.out.trans g3)
      have HO3 := hid (HO2.out.grown g3.g HLT.out)
      have cM := must_l [62] ⟨#[62]⟩ rfl H3.out.own g2 hs
      clear g1 g2 g3 cT2 HE0 HO2
      go_wp2_with fail
      refine cM.mono ?_
      rintro e w4 (⟨x, r, hx, rfl, hr⟩ | ⟨m, e, hx, rfl, hr⟩)
      · have HE2 : Hid (RES = .ok ((out, false), r)) := by show _ = _; rw [HE.out, hx]
        have H4 := hid (H3.out.trans hr)
        have HO4 := hid (HO3.out.grown hr.g HLT.out)
        clear hx hr cM HE HO3
        go_wp2_with fail
        go_ret2
        exact Or.inl ⟨_, _, _, _, HE2.out, rfl, by rw [HN.out]; exact h4, HO4.out, H4.out⟩
      · have HE2 : Hid (RES = .error (m, e)) := by show _ = _; rw [HE.out, hx]
        exact ⟨rfl, Or.inr ⟨_, _, HE2.out, rfl, H3.out.g.trans hr⟩⟩
    · have H3 := hid (H2.out.below g3)
      have HO3 := hid (HO2.out.below g3)
      have HN2 : Hid (¬ [47].isPrefixOf (rest s u) = true) := by show ¬ _; rw [g1]; decide
      clear g1 g3 cT2 HO2
      have hcase : sm = false ∨ (sm = true ∧ ¬ u < s.size) ∨ ∃ hlt : u < s.size, (sm = true ∧ X.letter (s[u]'hlt) = false) ∨ (sm = true ∧ X.letter (s[u]'hlt) = true) := by
        cases sm
        · exact Or.inl rfl
        · by_cases hlt : u < s.size
          · refine Or.inr (Or.inr ⟨hlt, ?_⟩)
            cases hl : X.letter (s[u]'hlt)
            · exact Or.inl ⟨rfl, rfl⟩
            · exact Or.inr ⟨rfl, rfl⟩
          · exact Or.inr (Or.inl ⟨rfl, hlt⟩)
      have HBAD : Hid (sm = false ∨ X.begins (rest s u) = false → RES = .error (X.bad (rest s u))) := by
        intro hh
        have hh2 : s.size - u = s.size - q ∨ X.begins (rest s u) = false := by
          rcases hh with hh | hh
          · have := HSM.out
            rw [hh] at this
            have := of_decide_eq_false this.symm
            have := HU.out
            left; omega
          · exact Or.inr hh
        rw [HE0.out, if_neg HN1.out, if_neg HN2.out, if_pos hh2]
      go_wp2_with fail
      rcases hcase with rfl | ⟨rfl, hlt⟩ | ⟨hlt, ⟨rfl, hl⟩ | ⟨rfl, hl⟩⟩
      · have HE := hid (HBAD.out (Or.inl rfl))
        clear HBAD HE0
        refine quiet_lit (C := (fun w1 => Rd W R s u c w1)) (by kernel_rfl) (by kernel_rfl) (H3.out.drew) ?_
        repeat (first
          | go_big_quiet_skip
          | (go_big_quiet_want
             refine quiet_val (x := ?_) (fun vv hC => ?_) ?_
             rotate_left
             · skip
               obtain ⟨c0, c1, -⟩ := hC.cells
               clear hC
               go_simp
               with_reducible rfl
             go_big_quiet_on
             try simp only [Act.put, List.setIfInBounds_toArray, List.set_cons_zero, List.set_cons_succ]))
        refine wpQuiet_nil ?_
        intro vq hq
        have H4 := hid hq
        have cB := bad_any H4.out.own hus
        clear hq
        go_wp2_with fail
        refine cB.mono ?_
        rintro e w5 ⟨rfl, hbl⟩
        exact ⟨rfl, Or.inr ⟨_, _, HE.out, rfl, (H4.out.below hbl).g⟩⟩
      · have HE := hid (HBAD.out (Or.inr (begins_nil hlt)))
        have t0 : decide ((s.size : Int) ≤ (u : Int)) = true := decide_eq_true (by omega)
        have t1 : decide (s.size ≤ u) = true := decide_eq_true (by omega)
        clear HBAD HE0 hlt
        refine quiet_lit (C := (fun w1 => Rd W R s u c w1)) (by kernel_rfl) (by kernel_rfl) (H3.out.drew) ?_
        repeat (first
          | go_big_quiet_skip
          | (go_big_quiet_want
             refine quiet_val (x := ?_) (fun vv hC => ?_) ?_
             rotate_left
             · skip
               obtain ⟨c0, c1, -⟩ := hC.cells
               clear hC
               go_simp
               with_reducible rfl
             go_big_quiet_on
             try simp only [Act.put, List.setIfInBounds_toArray, List.set_cons_zero, List.set_cons_succ]))
        refine wpQuiet_nil ?_
        intro vq hq
        have H4 := hid hq
        have cB := bad_any H4.out.own hus
        clear hq
        go_wp2_with fail
        refine cB.mono ?_
        rintro e w5 ⟨rfl, hbl⟩
        exact ⟨rfl, Or.inr ⟨_, _, HE.out, rfl, (H4.out.below hbl).g⟩⟩
      · have HE := hid (HBAD.out (Or.inr (by rw [begins_rest hlt]; exact hl)))
        have t0 : decide ((s.size : Int) ≤ (u : Int)) = false := decide_eq_false (by omega)
        have t1 : decide (s.size ≤ u) = false := decide_eq_false (by omega)
        have cL := fun U => letter_any (s[u]'hlt) U
        rw [hl] at cL
        have HL := hid cL
        have P0 : (0 : Int) ≤ (u : Int) := by omega
        have P1 : (u : Int) < (s.size : Int) := by omega
        clear HBAD HE0 hl cL
        refine quiet_lit (C := (fun w1 => Rd W R s u c w1)) (by kernel_rfl) (by kernel_rfl) (H3.out.drew) ?_
        repeat (first
          | go_big_quiet_skip
          | (go_big_quiet_want
             refine quiet_val (x := ?_) (fun vv hC => ?_) ?_
             rotate_left
             · skip
               obtain ⟨c0, c1, -⟩ := hC.cells
               clear hC
               go_simp
               with_reducible rfl
             go_big_quiet_on
             try simp only [Act.put, List.setIfInBounds_toArray, List.set_cons_zero, List.set_cons_succ])
          | (go_big_quiet_want
             refine quiet_call (f := ?_) (args := ?_) (x := ?_) (fun vv hC => ?_) (fun vv hC => ?_) ?_
             rotate_left 3
             · go_simp
               first | with_reducible rfl | (apply And.intro <;> with_reducible rfl)
             · first
                 | (go_at_call 54; with_reducible refine (HL.out _).mono ?_; rintro e ww ⟨rfl, bb⟩; refine And.intro ?_ (by rw [bb]; exact hC); with_reducible rfl)
             go_big_quiet_on
             try simp only [Act.put, List.setIfInBounds_toArray, List.set_cons_zero, List.set_cons_succ]))
        refine wpQuiet_nil ?_
        intro vq hq
        have H4 := hid hq
        have cB := bad_any H4.out.own hus
        clear hq
        go_wp2_with fail
        refine cB.mono ?_
        rintro e w5 ⟨rfl, hbl⟩
        exact ⟨rfl, Or.inr ⟨_, _, HE.out, rfl, (H4.out.below hbl).g⟩⟩
      · have HE : Hid (RES = if n = 32 then .error (s.size - u, 3) else match X.attr out (rest s u) with | .error e => .error e | .ok (x, r) => X.attrs k (out ++ [x]) r) := by
          show _ = _
          rw [HE0.out, if_neg HN1.out, if_neg HN2.out, if_neg (by
            rw [begins_rest hlt, hl]
            rintro (h0 | h0)
            · have := of_decide_eq_true HSM.out.symm
              omega
            · cases h0)]
        have t0 : decide ((s.size : Int) ≤ (u : Int)) = false := decide_eq_false (by omega)
        have t1 : decide (s.size ≤ u) = false := decide_eq_false (by omega)
        have cL := fun U => letter_any (s[u]'hlt) U
        rw [hl] at cL
        have HL := hid cL
        have P0 : (0 : Int) ≤ (u : Int) := by omega
        have P1 : (u : Int) < (s.size : Int) := by omega
        clear HBAD HE0 hl cL
        refine quiet_lit (C := (fun w1 => Rd W R s u c w1 ∧ ROwn s W.heap.size out (.slice va n vc) w1)) (by kernel_rfl) (by kernel_rfl) (⟨H3.out.drew, HO3.out.below (Below.refl _ _).drew⟩) ?_
        repeat (first
          | go_big_quiet_skip
          | (go_big_quiet_want
             refine quiet_val (x := ?_) (fun vv hC => ?_) ?_
             rotate_left
             · skip
               obtain ⟨c0, c1, -⟩ := hC.1.cells
               clear hC
               go_simp
               with_reducible rfl
             go_big_quiet_on
             try simp only [Act.put, List.setIfInBounds_toArray, List.set_cons_zero, List.set_cons_succ])
          | (go_big_quiet_want
             refine quiet_call (f := ?_) (args := ?_) (x := ?_) (fun vv hC => ?_) (fun vv hC => ?_) ?_
             rotate_left 3
             · go_simp
               first | with_reducible rfl | (apply And.intro <;> with_reducible rfl)
             · first
                 | (go_at_call 54; with_reducible refine (HL.out _).mono ?_; rintro e ww ⟨rfl, bb⟩; refine And.intro ?_ (by rw [bb]; exact hC); with_reducible rfl)
             go_big_quiet_on
             try simp only [Act.put, List.setIfInBounds_toArray, List.set_cons_zero, List.set_cons_succ]))
        refine wpQuiet_nil ?_
        intro vq hq
        have H4 := hid hq.1
        have HO4 := hid hq.2
        clear hq HO3 HL t0 t1
        by_cases hn32 : n = 32
        · have HE2 : Hid (RES = .error (s.size - u, 3) ∧ s.size - (s.size - u) = u) := by
            refine ⟨?_, by omega⟩
            rw [HE.out, if_pos hn32]
          have s0 : ((n : Int) == 32) = true := by rw [hn32]; rfl
          obtain ⟨c0, c1, -⟩ := H4.out.cells
          have cF := fun U => fail_any 3 (u : Int) U
          clear HE hn32
          go_wp2_with fail
          refine (cF _).mono ?_
          rintro en w5 ⟨rfl, rfl⟩
          exact ⟨rfl, Or.inr ⟨_, _, HE2.out.1, by rw [HE2.out.2], H4.out.g⟩⟩
        · have HE2 : Hid (RES = match X.attr out (rest s u) with | .error e => .error e | .ok (x, r) => X.attrs k (out ++ [x]) r) := by
            show _ = _
            rw [HE.out, if_neg hn32]
          have s0 : ((n : Int) == 32) = false := beq_eq_false_iff_ne.2 (by omega)
          have hn31 : n ≤ 31 := by omega
          obtain ⟨c0, c1, -⟩ := H4.out.cells
          clear HE hn32
          obtain ⟨w6, hw6⟩ : ∃ w6, vq.alloc (.cells #[.string ⟨#[]⟩, .string ⟨#[]⟩, .int .i64 u, .string ⟨#[]⟩] 120) = w6 := ⟨_, rfl⟩
          have hX6 : w6.heap[vq.heap.size]? = some (.cells #[.string ⟨#[]⟩, .string ⟨#[]⟩, .int .i64 u, .string ⟨#[]⟩] 120 (0, 0)) := by rw [← hw6]; exact heap_alloc_new vq _
          have H6 : Hid (Rd W R s u c w6) := by show Rd _ _ _ _ _ _; rw [← hw6]; exact H4.out.alloc _
          have HO6 : Hid (ROwn s W.heap.size out (.slice va n vc) w6) := by show ROwn _ _ _ _ _; rw [← hw6]; exact HO4.out.below ((Below.refl _ vq).alloc (Nat.le_refl _) _)
          obtain ⟨Y, hY⟩ : ∃ Y, vq.heap.size = Y := ⟨_, rfl⟩
          have HY : Hid ((Value.slice va n vc).ownBlock ≠ some Y ∧ W.heap.size ≤ Y) := by
            refine ⟨fun e => ?_, ?_⟩
            · have := (World.ownsRow.lt HO4.out Y e).2; omega
            · have := H4.out.g.size; omega
          have HRY : Hid (R ≠ Y) := by have := HLT.out; have := HY.out.2; show _ ≠ _; omega
          have HW6 := hid hw6
          have HYE := hid hY
          have HX6 : Hid (w6.heap[Y]? = some (.cells #[.string ⟨#[]⟩, .string ⟨#[]⟩, .int .i64 u, .string ⟨#[]⟩] 120 (0, 0))) := by show _ = _; rw [← hY]; exact hX6
          have cN := name_any H6.out.own hus hs
          have HFN := hid (X.name_fair (rest s u))
          clear hX6 hw6 hY H4 HO4
          go_upto_region 13 with fail
          rw [HW6.out, HYE.out]
          clear HW6 HYE c0 c1
          go_wp2_with fail
          refine cN.mono ?_
          rintro e w7 (⟨nm, r, hx, rfl, hr⟩ | ⟨m, e, hx, rfl, hr⟩)
          · have hsuf := (HFN.out.1 _ _ hx).1
            have hlen := (HFN.out.1 _ _ hx).2
            rw [rest_len] at hlen
            have hpos := rest_pos hsuf hus
            have hre := rest_suf hsuf
            obtain ⟨u7, hu⟩ : ∃ u7, s.size - r.length = u7 := ⟨_, rfl⟩
            rw [hu] at hr hpos hre
            have HE3 : Hid (RES = (if hasName out nm then .error (s.size - u, 6) else match X.must [61] (X.skip (rest s u7)) with
                | .error e => .error e
                | .ok (_, r2) => match X.value (X.skip r2) with
                  | .error e => .error e
                  | .ok (v, r3) => X.attrs k (out ++ [⟨nm.1, nm.2, s.size - u, v⟩]) r3)) := by
              show _ = _
              rw [HE2.out, attr_seq hx (fun x r => X.attrs k (out ++ [x]) r), hre, rest_len]
            have HX7 : Hid (w7.heap[Y]? = some (.cells #[.string ⟨#[]⟩, .string ⟨#[]⟩, .int .i64 u, .string ⟨#[]⟩] 120 (0, 0))) := by
              show _ = _
              rw [hr.g.block Y (Go.lt_of_block HX6.out) (fun e => HRY.out (Option.some.inj e).symm)]; exact HX6.out
            have H7 := hid (H6.out.trans hr)
            have HO7 := hid (HO6.out.grown hr.g HLT.out)
            have HU7 : Hid (u < u7 ∧ u7 ≤ s.size) := by show _ ∧ _; omega
            obtain ⟨x0, x1, -, -⟩ := row4 HX7.out
            obtain ⟨f0, f1, -, -⟩ := free4 HX7.out
            unfold nameV
            clear hx hr hsuf hlen hpos hre hu cN HFN HE2 H6 HO6 HX6
            obtain ⟨w8, hw8⟩ : ∃ w8, (w7.setCell ⟨Y, 0, none⟩ (.string (X.ba nm.1))).setCell ⟨Y, 1, none⟩ (.string (X.ba nm.2)) = w8 := ⟨_, rfl⟩
            have HX8 : Hid (w8.heap[Y]? = some (.cells #[.string (X.ba nm.1), .string (X.ba nm.2), .int .i64 u, .string ⟨#[]⟩] 120 (0, 0))) := by show _ = _; rw [← hw8]; exact row_set (row_set HX7.out 0 _) 1 _
            have H8 : Hid (Rd W R s u7 c w8) := by show Rd _ _ _ _ _ _; rw [← hw8]; exact (H7.out.put HY.out.2 0 _).put HY.out.2 1 _
            have HO8 : Hid (ROwn s W.heap.size out (.slice va n vc) w8) := by show ROwn _ _ _ _ _; rw [← hw8]; exact (HO7.out.put HY.out.1 0 _).put HY.out.1 1 _
            have HW8 := hid hw8
            obtain ⟨y0, y1, -, -⟩ := row4 HX8.out
            have cC := containsFunc_any s out (.slice va n vc) Y nm (by rw [HN.out]; omega) w8 (RawsIn.of HO8.out) y0 y1
            clear hw8 H7 HO7
            go_upto_region 14 with fail
            rw [HW8.out]
            clear HW8 HX7 x0 x1 f0 f1 y0 y1
            obtain ⟨hb, hhb⟩ : ∃ hb, hasName out nm = hb := ⟨_, rfl⟩
            rw [hhb] at cC HE3
            clear hhb
            go_wp2_with fail
            refine cC.mono ?_
            rintro e w9 ⟨rfl, g3⟩
            have H9 := hid (H8.out.below g3)
            have HO9 := hid (HO8.out.below g3)
            have HX9 : Hid (w9.heap[Y]? = some (.cells #[.string (X.ba nm.1), .string (X.ba nm.2), .int .i64 u, .string ⟨#[]⟩] 120 (0, 0))) := by show _ = _; rw [g3.block Y (Go.lt_of_block HX8.out)]; exact HX8.out
            clear g3 cC H8 HO8 HX8
            cases hb with
            | true =>
              have HE4 : Hid (RES = .error (s.size - u, 6) ∧ s.size - (s.size - u) = u) := ⟨by rw [HE3.out]; rfl, by omega⟩
              obtain ⟨-, -, y2, -⟩ := row4 HX9.out
              have cF := fun U => fail_any 6 (u : Int) U
              clear HE3
              go_wp2_with fail
              refine (cF _).mono ?_
              rintro en w10 ⟨rfl, rfl⟩
              exact ⟨rfl, Or.inr ⟨_, _, HE4.out.1, by rw [HE4.out.2], H9.out.g⟩⟩
            | false =>
              have cBl := blanks_any H9.out.own HU7.out.2 hs
              have hsk := X.Suf.skip (rest s u7)
              have hpos := rest_pos hsk HU7.out.2
              have hre := rest_suf hsk
              obtain ⟨u8, hu⟩ : ∃ u8, s.size - (X.skip (rest s u7)).length = u8 := ⟨_, rfl⟩
              rw [hu] at cBl hpos hre
              have HE4 : Hid (RES = match X.must [61] (rest s u8) with
                | .error e => .error e
                | .ok (_, r2) => match X.value (X.skip r2) with
                  | .error e => .error e
                  | .ok (v, r3) => X.attrs k (out ++ [⟨nm.1, nm.2, s.size - u, v⟩]) r3) := by
                show _ = _
                rw [HE3.out, ← hre]
                rfl
              have HU8 : Hid (u < u8 ∧ u8 ≤ s.size) := by have := HU7.out; show _ ∧ _; omega
              clear hsk hpos hre hu HE3
              go_wp2_with fail
              refine cBl.mono ?_
              rintro e w10 ⟨rfl, g3⟩
              have H10 := hid (H9.out.trans g3)
              have HO10 := hid (HO9.out.grown g3.g HLT.out)
              have HX10 : Hid (w10.heap[Y]? = some (.cells #[.string (X.ba nm.1), .string (X.ba nm.2), .int .i64 u, .string ⟨#[]⟩] 120 (0, 0))) := by show _ = _; rw [g3.g.block Y (Go.lt_of_block HX9.out) (fun e => HRY.out (Option.some.inj e).symm)]; exact HX9.out
              have cM := must_l [61] ⟨#[61]⟩ rfl H10.out.own HU8.out.2 hs
              have HFM := hid (X.must_fair [61] (rest s u8))
              clear g3 cBl H9 HO9 HX9
              go_wp2_with fail
              refine cM.mono ?_
              rintro e w11 (⟨_, r, hx, rfl, hr⟩ | ⟨m, e, hx, rfl, hr⟩)
              · have hsuf := (HFM.out.1 _ _ hx).1
                have hpos := rest_pos hsuf HU8.out.2
                have hre := rest_suf hsuf
                obtain ⟨u9, hu⟩ : ∃ u9, s.size - r.length = u9 := ⟨_, rfl⟩
                rw [hu] at hr hpos hre
                have HE5 : Hid (RES = match X.value (X.skip (rest s u9)) with
                  | .error e => .error e
                  | .ok (v, r3) => X.attrs k (out ++ [⟨nm.1, nm.2, s.size - u, v⟩]) r3) := by
                  show _ = _
                  rw [HE4.out, hx, ← hre]
                have H11 := hid (H10.out.trans hr)
                have HO11 := hid (HO10.out.grown hr.g HLT.out)
                have HX11 : Hid (w11.heap[Y]? = some (.cells #[.string (X.ba nm.1), .string (X.ba nm.2), .int .i64 u, .string ⟨#[]⟩] 120 (0, 0))) := by show _ = _; rw [hr.g.block Y (Go.lt_of_block HX10.out) (fun e => HRY.out (Option.some.inj e).symm)]; exact HX10.out
                have HU9 : Hid (u < u9 ∧ u9 ≤ s.size) := by have := HU8.out; show _ ∧ _; omega
                clear hx hr hsuf hpos hre hu cM HFM HE4 H10 HO10 HX10
                have cBl := blanks_any H11.out.own HU9.out.2 hs
                have hsk := X.Suf.skip (rest s u9)
                have hpos := rest_pos hsk HU9.out.2
                have hre := rest_suf hsk
                obtain ⟨u10, hu⟩ : ∃ u10, s.size - (X.skip (rest s u9)).length = u10 := ⟨_, rfl⟩
                rw [hu] at cBl hpos hre
                have HU10 : Hid (u < u10 ∧ u10 ≤ s.size) := by have := HU9.out; show _ ∧ _; omega
                rw [hre] at HE5
                clear hsk hpos hre hu
                go_wp2_with fail
                refine cBl.mono ?_
                rintro e w12 ⟨rfl, g3⟩
                have H12 := hid (H11.out.trans g3)
                have HO12 := hid (HO11.out.grown g3.g HLT.out)
                have HX12 : Hid (w12.heap[Y]? = some (.cells #[.string (X.ba nm.1), .string (X.ba nm.2), .int .i64 u, .string ⟨#[]⟩] 120 (0, 0))) := by show _ = _; rw [g3.g.block Y (Go.lt_of_block HX11.out) (fun e => HRY.out (Option.some.inj e).symm)]; exact HX11.out
                have cV := value_any H12.out.own HU10.out.2 hs (HG.out.rd H12.out hB) hB
                have HFV := hid (X.value_fair (rest s u10))
                clear g3 cBl H11 HO11 HX11
                go_wp2_with fail
                refine cV.mono ?_
                rintro e w13 (⟨val, r, hx, rfl, hr⟩ | ⟨m, e, hx, rfl, hr⟩)
                · have hsuf := (HFV.out.1 _ _ hx).1
                  have hpos := rest_pos hsuf HU10.out.2
                  have hre := rest_suf hsuf
                  obtain ⟨u11, hu⟩ : ∃ u11, s.size - r.length = u11 := ⟨_, rfl⟩
                  rw [hu] at hr hpos hre
                  have HE6 : Hid (RES = X.attrs k (out ++ [⟨nm.1, nm.2, s.size - u, val⟩]) (rest s u11)) := by
                    show _ = _
                    rw [HE5.out, hx, ← hre]
                  have HX13 : Hid (w13.heap[Y]? = some (.cells #[.string (X.ba nm.1), .string (X.ba nm.2), .int .i64 u, .string ⟨#[]⟩] 120 (0, 0))) := by show _ = _; rw [hr.g.block Y (Go.lt_of_block HX12.out) (fun e => HRY.out (Option.some.inj e).symm)]; exact HX12.out
                  have HU11 : Hid (u < u11 ∧ u11 ≤ s.size) := by have := HU10.out; show _ ∧ _; omega
                  obtain ⟨w14, hw14⟩ : ∃ w14, w13.setCell ⟨Y, 3, none⟩ (.string (X.ba val)) = w14 := ⟨_, rfl⟩
                  have HX14 : Hid (w14.heap[Y]? = some (.cells #[.string (X.ba nm.1), .string (X.ba nm.2), .int .i64 u, .string (X.ba val)] 120 (0, 0))) := by show _ = _; rw [← hw14]; exact row_set HX13.out 3 _
                  have H14 : Hid (Rd W R s u11 c w14) := by show Rd _ _ _ _ _ _; rw [← hw14]; exact (H12.out.trans hr).put HY.out.2 3 _
                  have HO14 : Hid (ROwn s W.heap.size out (.slice va n vc) w14) := by show ROwn _ _ _ _ _; rw [← hw14]; exact (HO12.out.grown hr.g HLT.out).put HY.out.1 3 _
                  obtain ⟨-, -, -, y3⟩ := row4 HX13.out
                  obtain ⟨-, -, -, f3⟩ := free4 HX13.out
                  have HW14 := hid hw14
                  clear hx hr hsuf hpos hre hu cV HFV HE5 H12 HO12 HX12 hw14
                  go_upto_region 20 with fail
                  rw [HW14.out]
                  clear HW14 HX13 y3 f3
                  obtain ⟨y0, y1, y2, y3⟩ := row4 HX14.out
                  obtain ⟨w15, hw15⟩ : ∃ w15, w14.alloc (.cells #[.string (X.ba nm.1), .string (X.ba nm.2), .int .i64 u, .string (X.ba val)] 120) = w15 := ⟨_, rfl⟩
                  have hT : w15.heap[w14.heap.size]? = some (.cells #[.string (X.ba nm.1), .string (X.ba nm.2), .int .i64 u, .string (X.ba val)] 120 (0, 0)) := by rw [← hw15]; exact heap_alloc_new w14 _
                  have H15 : Hid (Rd W R s u11 c w15) := by show Rd _ _ _ _ _ _; rw [← hw15]; exact H14.out.alloc _
                  have HO15 : Hid (ROwn s W.heap.size out (.slice va n vc) w15) := by show ROwn _ _ _ _ _; rw [← hw15]; exact HO14.out.below ((Below.refl _ w14).alloc (Nat.le_refl _) _)
                  obtain ⟨Z, hZ⟩ : ∃ Z, w14.heap.size = Z := ⟨_, rfl⟩
                  rw [hZ] at hT
                  have HZ : Hid (W.heap.size ≤ w15.heap.size) := H15.out.g.size
                  have HNEW : Hid (rawC s ⟨nm.1, nm.2, s.size - u, val⟩ = [.string (X.ba nm.1), .string (X.ba nm.2), .int .i64 u, .string (X.ba val)]) := by
                    show _ = _
                    unfold rawC
                    simp only
                    rw [show s.size - (s.size - u) = u by omega]
                  have hown : w15.ownsRow W.heap.size 120 4 (.slice va n vc) n (rawsC s out) := by have := HO15.out; unfold ROwn at this; rw [HN.out] at this; exact this
                  have hnews := World.news_of_block hT
                  obtain ⟨i0, hi, hz0, hz1, hz2⟩ := info_parts infoRaw
                  have HW15 := hid hw15
                  have HZE := hid hZ
                  clear hw15 hZ
                  go_wp2_with (at_builtin; (try rw [HW15.out, HZE.out]); refine wpList_append_own _ rfl _ _ 84 rfl W.heap.size 120 i0 _ 4 56 Tryz.underlying84 hi hz0 hz1 hz2 rfl (by decide) (.slice va n vc) n (rawsC s out) rfl hown ⟨Z, 0, none⟩ 1 1 [.string (X.ba nm.1), .string (X.ba nm.2), .int .i64 u, .string (X.ba val)] rfl rfl hnews (by intro u hu; simp at hu; rcases hu with rfl | rfl | rfl | rfl <;> rfl) (by unfold maxLen; omega) (by omega) HZ.out ?_)
                  intro v' w16 hown1 hgrow hat
                  have hl1 : (out ++ [(⟨nm.1, nm.2, s.size - u, val⟩ : X.Raw)]).length = n + 1 := by rw [List.length_append, HN.out]; rfl
                  have hsh : ∃ a c, v' = .slice a (out ++ [(⟨nm.1, nm.2, s.size - u, val⟩ : X.Raw)]).length c := by
                    rw [hl1]
                    rcases hown1.2 with ⟨rfl, h0⟩ | ⟨g, cap, cur, rfl, _⟩
                    · exact absurd h0 (by omega)
                    · exact ⟨_, _, rfl⟩
                  have HO16 : Hid (ROwn s W.heap.size (out ++ [(⟨nm.1, nm.2, s.size - u, val⟩ : X.Raw)]) v' w16) := by
                    show World.ownsRow _ _ _ _ _ _ _
                    rw [hl1, rawsC_snoc, HNEW.out]
                    exact hown1
                  have H16 : Hid (Rd W R s u11 c w16) := H15.out.build ((Below.refl _ w15).grown hgrow HZ.out (fun k hk => (World.ownsRow.lt hown k hk).1)) (Nat.le_refl _)
                  obtain ⟨va', vc', rfl⟩ := hsh
                  have HI16 : Hid (s.size - u11 < k ∧ u11 ≤ s.size ∧ (out ++ [(⟨nm.1, nm.2, s.size - u, val⟩ : X.Raw)]).length ≤ 32 ∧ X.attrs k (out ++ [(⟨nm.1, nm.2, s.size - u, val⟩ : X.Raw)]) (rest s u11) = RES) := by
                    refine ⟨?_, HU11.out.2, by rw [hl1]; omega, HE6.out.symm⟩
                    have := HI.out.1
                    have := HU.out
                    have := HU11.out
                    omega
                  have HM : Hid (s.size - u11 < s.size - q) := by
                    have := HU.out
                    have := HU11.out
                    show _ < _
                    omega
                  clear hl1 hown1 hgrow hat hown hnews hT hi hz0 hz1 hz2 HNEW y0 y1 y2 y3
                  go_wp2_with fail
                  go_roundw
                  case rel => exact ⟨u11, k, _, va', vc', rfl, HI16, H16, HO16⟩
                  case measure => rw [H16.out.pos, HPOS.out]; exact HM.out
                · have HE6 : Hid (RES = .error (m, e)) := by show _ = _; rw [HE5.out, hx]
                  exact ⟨rfl, Or.inr ⟨_, _, HE6.out, rfl, H12.out.g.trans hr⟩⟩
              · have HE5 : Hid (RES = .error (m, e)) := by show _ = _; rw [HE4.out, hx]
                exact ⟨rfl, Or.inr ⟨_, _, HE5.out, rfl, H10.out.g.trans hr⟩⟩
          · have HE3 : Hid (RES = .error (m, e)) := by show _ = _; rw [HE2.out, X.attr, hx]
            exact ⟨rfl, Or.inr ⟨_, _, HE3.out, rfl, H6.out.g.trans hr⟩⟩
end Go.Proofs.YteejphiklpnjhaaGreatDoor
