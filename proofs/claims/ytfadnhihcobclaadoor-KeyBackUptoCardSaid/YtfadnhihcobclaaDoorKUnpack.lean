/- The walk of key.Unpack. -/
import Derived.Test.YtfadnhihcobclaaDoorKGet
import Derived.Test.YtfadnhihcobclaaDoorKNum
import Derived.Test.YtfadnhihcobclaaDoorKTheirs
import Derived.Laws.DeepStrings4
namespace Go.Proofs.YtfadnhihcobclaaDoor
open Go.RowKit
open Go.Lib (hid)
open K
theorem wpList_pushP {ops : Array Oper} {rest : List Oper} {o : Oper} {a : Act} {Q : Exit → Act → World → Prop} {w : World} (hgd : o.guard = none) (s x : Operand)
    (ho : o.op = .call { callee := .builtin .append, args := #[s, x], argTypes := #[32, 32] }) (B : Nat) (ps : List Part) (p : Part) (v : Value) (g : Nat) (hs : a.eval s = v) (hR : POwn B ps v w) (hx : a.eval x = .slice (some ⟨g, 0, none⟩) 1 1)
    (hg : w.heap[g]? = some (.cells #[.bool p.text, .int .i64 p.n, .string p.say] 26 (0, 0))) (hl : ps.length ≤ 1000000000) (hB : B ≤ w.heap.size) (h : ∀ v' w', POwn B (ps ++ [p]) v' w' → w.grownBy w' v.ownBlock → wpList Tryd.prog ops Q rest (a.put o.dst v') w') : wpList Tryd.prog ops Q (o :: rest) a w := by
  obtain ⟨i0, hi, hz0, hz1, hz2⟩ := info_parts infoPart3
  refine wpList_append_own _ hgd s x 32 ho B 26 i0 _ 3 32 Tryd.underlying32 hi hz0 hz1 hz2 rfl (by decide) v ps.length (rowOf ps) hs hR ⟨g, 0, none⟩ 1 1 [.bool p.text, .int .i64 p.n, .string p.say] hx rfl (World.news_of_block (cs := #[.bool p.text, .int .i64 p.n, .string p.say]) (t := 26) (fr := (0, 0)) hg) (by simp [Value.oneCell']) (by unfold maxLen; omega) (by omega) hB ?_
  intro v' w' h1 h2 _
  refine h v' w' ?_ h2
  unfold POwn
  rw [rowOf_append, List.length_append]
  exact h1
/-- what Unpack answers -/
def UnOf (R : List Part × Int) (w : World) (e : Ending) (w' : World) : Prop := ∃ v, e = .returned (.tuple #[v, .int .i64 R.2]) ∧ POwn w.heap.size R.1 v w' ∧ Below w.heap.size w w'
theorem emp_no {x : ByteArray} (h : x.size ≠ 0) : x.toList.isEmpty = false := by
  rw [← decide_eq_emptyBytes]
  exact decide_eq_false (fun e => h (by rw [e]; rfl))
theorem emp_yes {x : ByteArray} (h : x.size = 0) : x.toList.isEmpty = true := by
  have hnil : x.data.toList = [] := List.eq_nil_of_length_eq_zero (by rw [Array.length_toList]; exact h)
  rw [Lib.toList_data, hnil]; rfl
theorem cut_num (x : ByteArray) (h : 9 ≤ x.size) : (x.extract 1 9).size = 8 ∧ numL (x.extract 1 9).data.toList = numL ((x.data.toList.drop 1).take 8) := by
  have e := extract_cut x 1 9
  refine ⟨?_, by rw [e]⟩
  have h2 : (x.extract 1 9).data.toList.length = (x.extract 1 9).size := Array.length_toList
  have h3 : x.data.toList.length = x.size := Array.length_toList
  rw [← h2, e, List.length_take, List.length_drop, h3]
  omega
theorem extract_size (x : ByteArray) (n : Nat) : (x.extract n x.size).size = x.size - n := by
  have h2 : (x.extract n x.size).data.toList.length = (x.extract n x.size).size := Array.length_toList
  have h3 : x.data.toList.length = x.size := Array.length_toList
  rw [← h2, extract_from, List.length_drop, h3]

set_option maxRecDepth 100000 in
set_option maxHeartbeats 8000000 in
theorem unpack_any (s : ByteArray) (w : World) (hs : s.size ≤ 4000000) :
    Calls Tryd.prog 15 #[.string s] w (UnOf (unpack s.data.toList) w) := by
  obtain ⟨U, hU⟩ : ∃ U, unpackF s.data.toList.length s.data.toList = U := ⟨_, rfl⟩
  have hst := K.Left.start s.data.toList
  unfold unpack
  rw [hU] at hst ⊢
  have HST := hid hst
  clear hU hst
  go_enter Tryd.func15, Tryd.ntmps15
  go_wp2_with fail
  go_loopw [0, 4] (fun sv v wr => ∃ (x : ByteArray) (acc : List Part), sv = .string x ∧ x.size ≤ s.size ∧ Hid (POwn w.heap.size acc v wr) ∧ Hid (K.Left U acc x.data.toList) ∧ Hid (acc.length + x.size ≤ s.size) ∧ Hid (Below w.heap.size w wr)) (fun sv _ _ => match sv with | .string x => x.size | _ => 0)
  case atStart => exact ⟨s, [], rfl, Nat.le_refl _, ⟨rfl, Or.inl ⟨rfl, rfl⟩⟩, HST.out, by show _ ≤ _; simp, Below.refl _ _⟩
  case round =>
    obtain ⟨x, acc, rfl, hx, hR, hL, hO, hb⟩ := hrel
    clear HST
    have hal : acc.length ≤ 1000000000 := by have := hO.out; omega
    have hwr := hb.out.size
    by_cases h0 : x.size = 0
    · have hemp := emp_yes h0
      have hU := hL.out
      rw [List.eq_nil_of_length_eq_zero (show x.data.toList.length = 0 by rw [Array.length_toList]; exact h0)] at hU
      have HU := hid hU.done
      obtain ⟨xa, c, hsv⟩ := hR.out.is.shape
      have HR := hid hR.out
      obtain ⟨m, hm⟩ : ∃ m, acc.length = m := ⟨_, rfl⟩
      rw [hm] at hsv
      subst hsv
      have HM := hid hm
      clear hU hL hR hm
      by_cases h16 : 16 < m
      · have t16 : decide ((16 : Int) < (m : Int)) = true := by simp; omega
        have HE : Hid (resOf U = ([], 4)) := by
          show _ = _
          rw [HU.out]; unfold resOf; simp only; rw [if_pos (by rw [HM.out]; exact h16)]
        go_wp2_with fail
        go_ret2
        rw [HE.out]
        exact ⟨_, rfl, ⟨rfl, Or.inl ⟨rfl, rfl⟩⟩, hb.out⟩
      · have t16 : decide ((16 : Int) < (m : Int)) = false := by simp; omega
        have HE : Hid (resOf U = (acc, 0)) := by
          show _ = _
          rw [HU.out]; unfold resOf; simp only; rw [if_neg (by rw [HM.out]; exact h16)]
        go_wp2_with fail
        go_ret2
        rw [HE.out]
        exact ⟨_, rfl, HR.out, hb.out⟩
    · have hemp := emp_no h0
      have hx0 : 0 < x.size := by omega
      have hd := drop_cons x 0 hx0
      rw [List.drop_zero, Nat.zero_add] at hd
      have hL2 := hL.out
      rw [hd] at hL2
      have hlen1 : (x.data.toList.drop 1).length = x.size - 1 := by rw [List.length_drop, Array.length_toList]; rfl
      clear hL
      by_cases g1 : x[0] = 1
      · have q1 : ((x[0].toNat : Int) == 1) = true := by rw [g1]; rfl
        rw [g1] at hL2
        by_cases h9 : 9 ≤ x.size
        · have t9 : decide ((9 : Int) ≤ (x.size : Int)) = true := by simp; omega
          have HN := hid (hL2.num (by rw [hlen1]; omega))
          obtain ⟨hc1, hc2⟩ := cut_num x h9
          have cG := fun X => get_any (x.extract 1 9) X hc1
          rw [hc2] at cG
          obtain ⟨g, hg⟩ : ∃ g, numL ((x.data.toList.drop 1).take 8) = g := ⟨_, rfl⟩
          rw [hg, List.drop_drop, show 1 + 8 = 9 from rfl, ← extract_from x 9] at HN
          rw [hg] at cG
          have HXS := hid (extract_size x 9)
          have hsl : ∀ X : World, (Instr.slice 9 (.string x) (some (.int .i64 1)) (some (.int .i64 9)) none).run Tryd.prog X = .ok (.string (x.extract 1 9)) X := by
            intro X
            rw [run_slice_string_if X 9 x .i64 .i64 1 9 Tryd.underlying9, if_pos (by omega), if_pos (by omega)]
            rfl
          clear hd hL2 hlen1 g1 hc1 hc2 hg h0
          go_wp2_with fail
          refine (cG _).mono ?_
          rintro e w1 ⟨rfl, b1⟩
          have B1 := hid (hb.out.trans (b1.mono hwr))
          have R1 := hid (hR.out.below b1)
          clear b1 cG hb hR
          go_wp2_with fail
          refine (num_any _ _).mono ?_
          rintro e w2 ⟨rfl, b2⟩
          have B2 := hid (B1.out.trans (b2.mono B1.out.size))
          have R2 := R1.out.below b2
          have RR := hid R2
          clear b2 B1 R1
          have hsz2 := B2.out.size
          have hR0 : POwn w.heap.size acc u4 (w2.alloc (.cells #[.bool false, .int .i64 (numP g).n, .string ⟨#[]⟩] 26)) := World.ownsRow.alloc R2 _
          have hg0 := heap_alloc_new w2 (.cells #[.bool false, .int .i64 (numP g).n, .string ⟨#[]⟩] 26)
          clear R2
          go_wp2_with (at_builtin; refine wpList_pushP rfl _ _ rfl w.heap.size acc (numP g) _ w2.heap.size rfl hR0 rfl hg0 hal (by simp; omega) ?_; intro v' w3 hR3 hgrow)
          have B3 := hid ((B2.out.alloc hsz2 (.cells #[.bool false, .int .i64 (numP g).n, .string ⟨#[]⟩] 26)).grown hgrow (by simp; omega) (fun k hk => (World.ownsRow.lt RR.out k hk).1))
          have R3 := hid hR3
          clear hR3 hgrow hR0 hg0
          go_wp2_with fail
          go_roundw
          case rel => exact ⟨_, _, rfl, by rw [HXS.out]; omega, R3, HN, by show _ + _ ≤ _; rw [HXS.out, List.length_append]; have := hO.out; simp; omega, B3⟩
          case measure => simp [HXS.out]; omega
        · have t9 : decide ((9 : Int) ≤ (x.size : Int)) = false := by simp; omega
          have q2 : ((x[0].toNat : Int) == 2) = false := by rw [g1]; rfl
          have HE : Hid (resOf U = ([], 4)) := by
            show _ = _
            rw [hL2.short (by rw [hlen1]; omega)]; rfl
          clear hd hL2 hlen1 g1 hR h0
          go_wp2_with fail
          go_ret2
          rw [HE.out]
          exact ⟨_, rfl, ⟨rfl, Or.inl ⟨rfl, rfl⟩⟩, hb.out⟩
      · have q1 : ((x[0].toNat : Int) == 1) = false := beq_eq_false_iff_ne.2 (fun e => g1 (u8eq (b := 1) (by show _ = 1; omega)))
        by_cases g2 : x[0] = 2
        · have q2 : ((x[0].toNat : Int) == 2) = true := by rw [g2]; rfl
          rw [g2] at hL2
          have cT := fun X => text_any (x.extract 1 x.size) X (by rw [extract_size]; omega)
          rw [extract_from] at cT
          cases ht : textL (x.data.toList.drop 1) with
          | none =>
            rw [ht] at cT
            have HE : Hid (resOf U = ([], 4)) := by
              show _ = _
              rw [hL2.no ht]; rfl
            simp only [textV] at cT
            clear hd hL2 hlen1 g1 g2 hR h0 ht
            go_wp2_with fail
            refine (cT _).mono ?_
            rintro e w1 ⟨rfl, b1⟩
            have B1 := hid (hb.out.trans (b1.mono hwr))
            clear b1 cT hb
            go_wp2_with fail
            go_ret2
            rw [HE.out]
            exact ⟨_, rfl, ⟨rfl, Or.inl ⟨rfl, rfl⟩⟩, B1.out⟩
          | some p =>
            rw [ht] at cT
            have HN := hid (hL2.text ht)
            have hpl := textL_length _ _ (Nat.le_refl _) p ht
            rw [hlen1] at hpl
            simp only [textV] at cT
            obtain ⟨tx, rs⟩ := p
            simp only at hpl cT HN
            have HPS : Hid ((⟨rs.toArray⟩ : ByteArray).size = rs.length) := by
              show _ = _
              exact List.size_toArray
            clear hd hL2 hlen1 g1 g2 h0 ht
            go_wp2_with fail
            refine (cT _).mono ?_
            rintro e w1 ⟨rfl, b1⟩
            have B1 := hid (hb.out.trans (b1.mono hwr))
            have R1 := hid (hR.out.below b1)
            clear b1 cT hb hR
            go_wp2_with fail
            refine (str_any _ _).mono ?_
            rintro e w2 ⟨rfl, b2⟩
            have B2 := hid (B1.out.trans (b2.mono B1.out.size))
            have R2 := R1.out.below b2
            have RR := hid R2
            clear b2 B1 R1
            have hsz2 := B2.out.size
            have hR0 : POwn w.heap.size acc u4 (w2.alloc (.cells #[.bool true, .int .i64 0, .string ⟨tx.toArray⟩] 26)) := World.ownsRow.alloc R2 _
            have hg0 := heap_alloc_new w2 (.cells #[.bool true, .int .i64 0, .string ⟨tx.toArray⟩] 26)
            clear R2
            go_wp2_with (at_builtin; refine wpList_pushP rfl _ _ rfl w.heap.size acc (textP tx) _ w2.heap.size rfl hR0 rfl hg0 hal (by simp; omega) ?_; intro v' w3 hR3 hgrow)
            have B3 := hid ((B2.out.alloc hsz2 (.cells #[.bool true, .int .i64 0, .string ⟨tx.toArray⟩] 26)).grown hgrow (by simp; omega) (fun k hk => (World.ownsRow.lt RR.out k hk).1))
            have R3 := hid hR3
            clear hR3 hgrow hR0 hg0
            go_wp2_with fail
            go_roundw
            case rel => exact ⟨_, _, rfl, by rw [HPS.out]; omega, R3, (show K.Left _ _ _ from HN.out), by show _ + _ ≤ _; rw [HPS.out, List.length_append]; have := hO.out; simp; omega, B3⟩
            case measure => have := HPS.out; simp only; omega
        · have q2 : ((x[0].toNat : Int) == 2) = false := beq_eq_false_iff_ne.2 (fun e => g2 (u8eq (b := 2) (by show _ = 2; omega)))
          have HE : Hid (resOf U = ([], 4)) := by
            show _ = _
            rw [hL2.other g1 g2]; rfl
          clear hd hL2 hlen1 g1 g2 hR h0
          go_wp2_with fail
          go_ret2
          rw [HE.out]
          exact ⟨_, rfl, ⟨rfl, Or.inl ⟨rfl, rfl⟩⟩, hb.out⟩
end Go.Proofs.YtfadnhihcobclaaDoor
