/- The walk of the reference's Quote; rows of bytes of a call's own. -/
import Derived.Test.YtohdifffdgoaaaaDoorWByteQ
namespace Go.Proofs.YtohdifffdgoaaaaDoor
open Go.RowKit
open Go.Lib (hid)

/-- a slice of the call's own (blocks from B on) that holds these bytes -/
def Row (B : Nat) (l : List UInt8) (v : Value) (w : World) : Prop := w.ownsRow B 5 1 v l.length (Lib.byteCells l)
theorem Row.nil (B : Nat) (w : World) : Row B [] (.slice none 0 0) w := ⟨rfl, Or.inl ⟨rfl, rfl⟩⟩
theorem Row.below {B : Nat} {l : List UInt8} {v : Value} {w w' : World} (h : Row B l v w) (hb : Below w.heap.size w w') : Row B l v w' :=
  World.ownsRow.kept (row := none) h ⟨hb.os, hb.tape, hb.output, hb.size, fun k hk _ => hb.block k hk⟩ (Classical.em _)
theorem Row.new (w : World) (c : UInt8) : Row w.heap.size [c] (.slice (some ⟨w.heap.size, 0, none⟩) 1 1) (w.alloc (.cells #[.int .u8 c.toNat] 5)) :=
  ⟨rfl, Or.inr ⟨_, 1, _, rfl, Nat.le_refl _, heap_alloc_new w _, Nat.le_refl _, by decide, rfl, rfl⟩⟩
theorem foldl_push : ∀ (l : List Int) (r : ByteArray), l.foldl (fun r n => r.push (UInt8.ofNat n.toNat)) r = ⟨(r.data.toList ++ l.map fun n => UInt8.ofNat n.toNat).toArray⟩ := by
  intro l
  induction l with
  | nil => intro r; simp
  | cons n l ih => intro r; rw [List.foldl_cons, ih]; simp [ByteArray.push]
/-- 'string(out)' -/
theorem Row.conv {B : Nat} {l : List UInt8} {v : Value} {w : World} (h : Row B l v w) : (convert 59 9 v).run Tryd.prog w = .ok (.string ⟨l.toArray⟩) w := by
  have hcells := fun g (hg : v.ownBlock = some g) => World.ownsRow.cells h hg
  rcases h.2 with ⟨rfl, h0⟩ | ⟨g, cap, cur, rfl, _⟩
  · have : l = [] := List.eq_nil_of_length_eq_zero h0
    subst this
    rw [run_convert_bytes_string _ _ _ _ _ _ _ Tryd.underlying59 Tryd.underlying5 Tryd.underlying9]
    rfl
  · rw [run_convert_bytes_string _ _ _ _ _ _ _ Tryd.underlying59 Tryd.underlying5 Tryd.underlying9]
    have hm : (l.map fun c => (c.toNat : Int)).map (Value.int .u8) = Lib.byteCells l := by
      unfold Lib.byteCells; simp
    have hl : (loadCells ⟨g, 0, none⟩ l.length).run Tryd.prog w = .ok ((l.map fun c => (c.toNat : Int)).map (Value.int .u8)).toArray w := by
      have := run_loadCells_list (P := Tryd.prog) w ⟨g, 0, none⟩ ((l.map fun c => (c.toNat : Int)).map (Value.int .u8)) (fun j u hu => by
        rw [hm] at hu; exact hcells g rfl j u hu)
      simpa using this
    rw [run_bytesToString _ _ _ _ _ hl, foldl_push]
    have hid' : (l.map fun c => (c.toNat : Int)).map (fun n => UInt8.ofNat n.toNat) = l := by
      rw [List.map_map]
      conv => rhs; rw [← List.map_id l]
      refine List.map_congr_left (fun c _ => ?_)
      simp
    rw [hid']
    simp

theorem Row.of_append {B : Nat} {l q : List UInt8} {v : Value} {w : World} (h : w.ownsRow B 5 1 v (l.length + q.length) (Lib.byteCells l ++ Lib.strCells ⟨q.toArray⟩)) : Row B (l ++ q) v w := by
  unfold Row
  rw [List.length_append, Lib.byteCells_append]
  exact h
theorem Row.of_push {B : Nat} {l : List UInt8} {c : UInt8} {v : Value} {w : World} (h : w.ownsRow B 5 1 v (l.length + 1) (Lib.byteCells l ++ [.int .u8 c.toNat])) : Row B (l ++ [c]) v w := by
  unfold Row
  rw [List.length_append, Lib.byteCells_append]
  exact h

set_option maxRecDepth 100000 in
set_option maxHeartbeats 4000000 in
theorem refQuote_any (s : ByteArray) (w : World) (hs : s.size ≤ 17592186044416) :
    Calls Tryd.prog 80 #[.string s] w fun e w' => e = .returned (.string ⟨(W.quoteL s.data.toList).toArray⟩) ∧ Below w.heap.size w w' := by
  obtain ⟨i0, hi, hz0, hz1, hz2⟩ := info_parts infoByte
  have h0 : Row w.heap.size [34] (.slice (some ⟨w.heap.size, 0, none⟩) 1 1) (w.alloc (.cells #[.int .u8 34] 5)) := Row.new w 34
  have H0 := hid h0
  clear h0
  go_enter Tryd.func80, Tryd.ntmps80
  go_wp2_with fail
  go_loopw [3, 4] (fun v i wr => ∃ k : Nat, k ≤ s.size ∧ i = .int .i64 k ∧ Hid (Row w.heap.size (34 :: W.quoteIn (s.data.toList.take k)) v wr) ∧ Hid (Below w.heap.size w wr)) (fun _ i _ => s.size - (intOf i).toNat)
  case atStart => exact ⟨0, by omega, rfl, by show Row _ _ _ _; exact H0.out, by show Below _ _ _; exact (Below.refl _ w).alloc (Nat.le_refl _) _⟩
  case round =>
    obtain ⟨k, hk, rfl, hR, hb⟩ := hrel
    have hql := W.quoteIn_length (s.data.toList.take k)
    have hll : (34 :: W.quoteIn (s.data.toList.take k)).length ≤ 70368744177665 := by
      have : (s.data.toList.take k).length ≤ k := by simp; omega
      simp only [List.length_cons]
      omega
    by_cases hlt : k < s.size
    · have hl : decide ((k : Int) < (s.size : Int)) = true := by simp; omega
      have hbq := (W.byteQ_length s[k]).2
      have cB := refByte_any s[k] wr
      have HN : Hid (34 :: W.quoteIn (s.data.toList.take k) ++ W.byteQ s[k] = 34 :: W.quoteIn (s.data.toList.take (k + 1))) := by
        show _ = _
        rw [W.take_snoc s k hlt, W.quoteIn_append]; simp [W.quoteIn]
      clear hql
      obtain ⟨l, hlq⟩ : ∃ l, 34 :: W.quoteIn (s.data.toList.take k) = l := ⟨_, rfl⟩
      rw [hlq] at hR HN hll
      clear hlq
      have hb1 : s[k].toNat < 256 := s[k].toNat_lt
      go_wp2_with fail
      refine cB.mono ?_
      rintro e w2 ⟨rfl, hb2⟩
      have hR2 := hR.out.below hb2
      have hw2 := hb2.size
      have hwr := hb.out.size
      have HB2 := hid (hb.out.trans (hb2.mono hb.out.size))
      clear hb2
      go_wp2_with (refine Lib.wpList_append_own_string _ rfl (.tmp 12) (.tmp 16) 59 9 rfl w.heap.size 5 i0 Tryd.underlying59 Tryd.underlying9 hi hz0 hz1 hz2 _ _ _ rfl hR2 ⟨(W.byteQ s[k]).toArray⟩ rfl ?c3 ?c4 ?c5 ?_)
      case c3 => have := hbq; show _ + (W.byteQ s[k]).toArray.size ≤ maxLen; rw [List.size_toArray]; unfold maxLen; omega
      case c4 => have := hbq; show _ + (W.byteQ s[k]).toArray.size ≤ _; rw [List.size_toArray]; omega
      case c5 => omega
      intro v' w3 hown' hgrow _
      have hR3 := Row.of_append hown'
      rw [HN.out] at hR3
      have HR3 := hid hR3
      have HB3 := hid (HB2.out.grown hgrow (by omega) (fun k hk => (World.ownsRow.lt hR2 k hk).1))
      clear hR3 hown' hgrow hR2
      go_wp2_with fail
      go_roundw
      case rel => exact ⟨k + 1, by omega, by go_num, HR3, HB3⟩
      case measure => simp [intOf]; omega
    · obtain rfl : k = s.size := by omega
      have hl : decide ((s.size : Int) < (s.size : Int)) = false := by simp
      have HN : Hid (34 :: W.quoteIn (s.data.toList.take s.size) ++ [34] = W.quoteL s.data.toList) := by
        show _ = _
        rw [List.take_of_length_le (by simp)]; rfl
      obtain ⟨l, hlq⟩ : ∃ l, 34 :: W.quoteIn (s.data.toList.take s.size) = l := ⟨_, rfl⟩
      rw [hlq] at hR HN hll
      clear hlq hql
      have hwr := hb.out.size
      have hR1 := hR.out
      go_wp2_with (at_builtin; refine wpList_append_own _ rfl _ _ 59 rfl w.heap.size 5 i0 (.int .u8 0) 1 1 Tryd.underlying59 hi hz0 hz1 hz2 rfl (by decide) _ _ _ rfl (World.ownsRow.alloc hR1 _) ⟨wr.heap.size, 0, none⟩ 1 1 [.int .u8 34] rfl rfl ?c1 ?c2 ?c3 ?c4 ?c5 ?_)
      case c1 =>
        intro j u hj
        match j, hj with
        | 0, hj => simp at hj; subst hj; simp [Addr.add]
      case c2 => intro u hu; simp at hu; subst hu; rfl
      case c3 => unfold maxLen; omega
      case c4 => omega
      case c5 => simp; omega
      intro v' w3 hown' hgrow _
      have hR3 := Row.of_push (c := 34) hown'
      rw [HN.out] at hR3
      have hconv := hR3.conv
      have HB3 := hid ((hb.out.alloc hwr _).grown hgrow (by simp; omega) (fun k hk => (World.ownsRow.lt hR1 k hk).1))
      clear hR3 hown' hgrow hR1 hR
      go_wp2_with fail
      go_ret
      exact ⟨rfl, HB3.out⟩
end Go.Proofs.YtohdifffdgoaaaaDoor
