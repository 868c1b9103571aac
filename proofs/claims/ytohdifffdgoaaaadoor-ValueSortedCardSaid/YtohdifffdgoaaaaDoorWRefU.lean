/- The walk of the reference's Unquote. -/
import Derived.Test.YtohdifffdgoaaaaDoorWRefQ
import Derived.Test.YtohdifffdgoaaaaDoorWUnq
namespace Go.Proofs.YtohdifffdgoaaaaDoor
open Go.RowKit
open Go.Lib (hid)

namespace W
/-- a byte's quoting stands at place n -/
def Here (s : ByteArray) (n : Nat) (c : UInt8) : Prop := ∃ x, s.data.toList.drop n = byteQ c ++ x
theorem here_iff (s : ByteArray) (n : Nat) (c : UInt8) : Here s n c ↔ (s.extract n (n + (byteQ c).length)).data.toList = byteQ c := by
  rw [extract_cut, show n + (byteQ c).length - n = (byteQ c).length by omega]
  constructor
  · rintro ⟨x, e⟩; rw [e, List.take_left]
  · intro e; exact ⟨_, by conv => lhs; rw [← List.take_append_drop (byteQ c).length (s.data.toList.drop n), e]⟩
theorem here_room (s : ByteArray) (n : Nat) (c : UInt8) (h : Here s n c) : n + (byteQ c).length ≤ s.size ∨ s.size ≤ n := by
  obtain ⟨x, e⟩ := h
  have := congrArg List.length e
  simp only [List.length_drop, List.length_append, Array.length_toList] at this
  have hs : s.data.size = s.size := rfl
  omega
theorem here_take (s : ByteArray) (n : Nat) (c : UInt8) (o : List UInt8) (h : Here s n c) (ho : s.data.toList.take n = 34 :: quoteIn o) : s.data.toList.take (n + (byteQ c).length) = 34 :: quoteIn (o ++ [c]) := by
  obtain ⟨x, e⟩ := h
  rw [List.take_add, ho, e, List.take_left, quoteIn_append]
  simp [quoteIn]
theorem split_at (s : ByteArray) (n : Nat) (o : List UInt8) (ho : s.data.toList.take n = 34 :: quoteIn o) : s.data.toList = 34 :: (quoteIn o ++ s.data.toList.drop n) := by
  conv => lhs; rw [← List.take_append_drop n s.data.toList, ho]
  rfl
end W

set_option maxRecDepth 100000 in
set_option maxHeartbeats 8000000 in
theorem refUnq_in (s : ByteArray) (w : World) (hs : s.size ≤ 17592186044416) (h2 : 2 ≤ s.size) (h34 : s[0].toNat = 34) :
    Calls Tryd.prog 69 #[.string s] w fun e w' => e = .returned (.tuple #[.string ⟨(W.unqL s.data.toList).1.toArray⟩, .bool (W.unqL s.data.toList).2]) ∧ Below w.heap.size w w' := by
  obtain ⟨i0, hi, hz0, hz1, hz2⟩ := info_parts infoByte
  have hst : Hid (s.data.toList.take 1 = 34 :: W.quoteIn []) := by
    show _ = _
    have e0 := W.take_snoc s 0 (by omega)
    rw [show (0 + 1) = 1 from rfl] at e0
    rw [e0, W.u8eq h34 (b := 34)]; rfl
  have t0 : decide ((s.size : Int) < 2) = false := by simp; omega
  have t1 : ((s[0].toNat : Int) == 34) = true := beq_iff_eq.2 (by omega)
  go_enter Tryd.func69, Tryd.ntmps69
  go_wp2_with fail
  go_loopw [4, 5] (fun v i wr => ∃ (n : Nat) (o : List UInt8), 1 ≤ n ∧ n ≤ s.size ∧ i = .int .i64 n ∧ Hid (Row w.heap.size o v wr) ∧ Hid (s.data.toList.take n = 34 :: W.quoteIn o) ∧ Hid (o.length ≤ n) ∧ Hid (Below w.heap.size w wr)) (fun _ i _ => s.size - (intOf i).toNat)
  case atStart => exact ⟨1, [], by omega, by omega, rfl, Row.nil _ _, hst, by show 0 ≤ 1; omega, Below.refl _ _⟩
  case round =>
    obtain ⟨n, o, hn1, hn, rfl, hR, hT, hO, hb⟩ := hrel
    clear t0 t1 hst
    by_cases hlt : n < s.size
    · have hl : decide ((n : Int) < (s.size : Int)) = true := by simp; omega
      by_cases h3 : s[n].toNat = 34
      · have hq : ((s[n].toNat : Int) == 34) = true := beq_iff_eq.2 (by omega)
        have hsp := W.split_at s n o hT.out
        have hd : s.data.toList.drop n = s[n] :: s.data.toList.drop (n + 1) := W.drop_cons s n hlt
        by_cases hE : n = s.size - 1
        · have HU : Hid (W.unqL s.data.toList = (o, true)) := by
            show _ = _
            refine W.unqL_of ?_
            rw [hsp, hd, List.drop_of_length_le (by rw [Array.length_toList]; show s.size ≤ n + 1; omega), W.u8eq h3 (b := 34)]
            rfl
          have he : ((n : Int) == (s.size : Int) - 1) = true := beq_iff_eq.2 (by omega)
          have hconv := hR.out.conv
          clear hsp hd hT h3 hE
          go_wp2_with fail
          go_ret2
          exact ⟨ret_lb (a := (o, true)) (by rw [HU.out]), hb.out⟩
        · have HU : Hid (W.unqL s.data.toList = ([], false)) := by
            show _ = _
            refine W.unqL_no (W.at_mark hsp (Or.inr (by rw [hd, W.u8eq h3 (b := 34)]; rfl)) (fun e => hE ?_))
            have := congrArg List.length e
            simp only [List.length_drop, List.length_cons, List.length_nil, Array.length_toList] at this
            have hs : s.data.size = s.size := rfl
            omega
          have he : ((n : Int) == (s.size : Int) - 1) = false := beq_eq_false_iff_ne.2 (by omega)
          clear hsp hd hT h3 hE hR
          go_wp2_with fail
          go_ret2
          exact ⟨ret_lb (a := ([], false)) (by rw [HU.out]), hb.out⟩
      · have hq : ((s[n].toNat : Int) == 34) = false := beq_eq_false_iff_ne.2 (by omega)
        have HSP := hid (W.split_at s n o hT.out)
        have HHD : Hid ((s.data.toList.drop n).head? ≠ some 34) := by
          show _ ≠ _
          rw [W.drop_cons s n hlt]
          intro e
          exact h3 (by rw [Option.some.inj e]; rfl)
        have hq' : ((s[n].toNat : Int) != 34) = true := by rw [bne, hq]; rfl
        clear h3
        go_wp2_with fail
        clear hq hl hq'
        go_loopw [4, 5, 6, 7] (fun v i f c wr' => ∃ k : Nat, k ≤ 256 ∧ c = .int .i64 k ∧ Hid (Below w.heap.size w wr') ∧
          ((f = .bool false ∧ i = .int .i64 n ∧ Hid (Row w.heap.size o v wr') ∧ Hid (∀ c' : UInt8, c'.toNat < k → ¬ W.Here s n c'))
           ∨ (∃ (m : Nat) (o' : List UInt8), f = .bool true ∧ i = .int .i64 m ∧ n < m ∧ m ≤ s.size ∧ Hid (Row w.heap.size o' v wr') ∧ Hid (s.data.toList.take m = 34 :: W.quoteIn o') ∧ Hid (o'.length ≤ m))))
          (fun _ _ _ c _ => 256 - (intOf c).toNat)
        case atStart => exact ⟨0, by omega, rfl, hb, Or.inl ⟨rfl, rfl, hR, by show ∀ _, _; intro c' h; omega⟩⟩
        case round =>
          obtain ⟨k, hk, rfl, hb', hrel'⟩ := hrel
          rcases hrel' with ⟨rfl, rfl, hR', hN⟩ | ⟨m, o', rfl, rfl, hm1, hm2, hR', hT', hO'⟩
          · by_cases hk6 : k < 256
            · have hl6 : decide ((k : Int) < 256) = true := by simp; omega
              have hck : (UInt8.ofNat k).toNat = k := by simp; omega
              obtain ⟨c, hcc⟩ : ∃ c, UInt8.ofNat k = c := ⟨_, rfl⟩
              rw [hcc] at hck
              have wk : IntKind.u8.wrap (k : Int) = (k : Int) := IntWalk.u8_in _ (by omega)
              have cB := refByte_any c wr
              obtain ⟨q, hqq⟩ : ∃ q : ByteArray, (⟨(W.byteQ c).toArray⟩ : ByteArray) = q := ⟨_, rfl⟩
              have hql : q.data.toList = W.byteQ c := by rw [← hqq]
              have hqs : q.size = (W.byteQ c).length := by rw [← hql]; rfl
              have hbq := W.byteQ_length c
              rw [hqq, hck] at cB
              have hstep : Hid (¬ W.Here s n c → ∀ c' : UInt8, c'.toNat < k + 1 → ¬ W.Here s n c') := by
                show _ → _
                intro hno c' hc'
                by_cases h : c'.toNat < k
                · exact hN.out c' h
                · rw [W.u8eq (a := c') (b := c) (by omega)]; exact hno
              have hin : Hid (∀ x : UInt8, x = c → W.Here s n x → s.data.toList.take (n + q.size) = 34 :: W.quoteIn (o ++ [x])) := by
                show ∀ x, _
                intro x hx hh
                subst hx
                rw [hqs]
                exact W.here_take s n x o hh hT.out
              rw [← hqs] at hbq
              by_cases hroom : n + q.size ≤ s.size
              · have r1 : decide ((n : Int) + (q.size : Int) ≤ (s.size : Int)) = true := by simp; omega
                have hsl : ∀ X : World, (Instr.slice 9 (.string s) (some (.int .i64 (n : Int))) (some (.int .i64 ((n : Int) + (q.size : Int)))) none).run Tryd.prog X = .ok (.string (s.extract n (n + q.size))) X := slice_at s n q.size hroom
                obtain ⟨b, hbb⟩ : ∃ b, decide ((s.extract n (n + q.size)).data.toList = q.data.toList) = b := ⟨_, rfl⟩
                have hcmp : ((s.extract n (n + q.size)).toList == q.toList) = b := by rw [Lib.toList_data, Lib.toList_data, W.list_beq]; exact hbb
                rw [hql, hqs] at hbb
                have hHERE := W.here_iff s n c
                cases b
                · have HN := hid (hstep.out (fun h => absurd (hHERE.1 h) (of_decide_eq_false hbb)))
                  clear hHERE hbb hqq hql hqs hcc hstep hin hN
                  go_wp2_with fail
                  refine cB.mono ?_
                  rintro e w2 ⟨rfl, hb2⟩
                  have HR := hid (hR'.out.below hb2)
                  have HB := hid (hb'.out.trans (hb2.mono hb'.out.size))
                  clear hb2 cB
                  go_wp2_with fail
                  go_roundw
                  case rel => exact ⟨k + 1, by omega, by go_num, HB, Or.inl ⟨rfl, rfl, HR, HN⟩⟩
                  case measure => simp [intOf]; omega
                · have HT := hid (hin.out c rfl (hHERE.2 (of_decide_eq_true hbb)))
                  clear hHERE hbb hqq hql hqs hcc hstep hin hN
                  have hol := hO.out
                  go_wp2_with fail
                  refine cB.mono ?_
                  rintro e w2 ⟨rfl, hb2⟩
                  have hR2 := hR'.out.below hb2
                  have HB := hid (hb'.out.trans (hb2.mono hb'.out.size))
                  have hwr := HB.out.size
                  clear hb2 cB
                  go_wp2_with (at_builtin; refine wpList_append_own _ rfl _ _ 59 rfl w.heap.size 5 i0 (.int .u8 0) 1 1 Tryd.underlying59 hi hz0 hz1 hz2 rfl (by decide) _ _ _ rfl (World.ownsRow.alloc hR2 _) ⟨w2.heap.size, 0, none⟩ 1 1 [.int .u8 (k : Int)] rfl rfl ?c1 ?c2 ?c3 ?c4 ?c5 ?_)
                  case c1 =>
                    intro j u hj
                    match j, hj with
                    | 0, hj => simp at hj; subst hj; simp [Addr.add]
                  case c2 => intro u hu; simp at hu; subst hu; rfl
                  case c3 => unfold maxLen; omega
                  case c4 => omega
                  case c5 => simp; omega
                  intro v' w3 hown' hgrow _
                  have hR3 := Row.of_push (c := c) (by rw [hck]; exact hown')
                  have HR3 := hid hR3
                  have HB3 := hid ((HB.out.alloc hwr _).grown hgrow (by simp; omega) (fun k hk => (World.ownsRow.lt hR2 k hk).1))
                  clear hR3 hown' hgrow hR2 hol
                  go_wp2_with fail
                  go_roundw
                  case rel => exact ⟨k + 1, by omega, by go_num, HB3, Or.inr ⟨n + q.size, _, rfl, by first | rfl | go_num, by omega, hroom, HR3, HT, by show _ ≤ _; rw [List.length_append]; have := hO.out; simp only [List.length_cons, List.length_nil]; omega⟩⟩
                  case measure => simp [intOf]; omega
              · have r1 : decide ((n : Int) + (q.size : Int) ≤ (s.size : Int)) = false := by simp; omega
                have HN := hid (hstep.out (fun h => by rcases W.here_room s n c h with h | h <;> omega))
                clear hqq hql hqs hcc hstep hin hN
                go_wp2_with fail
                refine cB.mono ?_
                rintro e w2 ⟨rfl, hb2⟩
                have HR := hid (hR'.out.below hb2)
                have HB := hid (hb'.out.trans (hb2.mono hb'.out.size))
                clear hb2 cB
                go_wp2_with fail
                go_roundw
                case rel => exact ⟨k + 1, by omega, by go_num, HB, Or.inl ⟨rfl, rfl, HR, HN⟩⟩
                case measure => simp [intOf]; omega
            · obtain rfl : k = 256 := by omega
              have HU : Hid (W.unqL s.data.toList = ([], false)) := by
                show _ = _
                exact W.unqL_no (W.no_byte HSP.out HHD.out (fun c' h => hN.out c' c'.toNat_lt h))
              clear hR' hN
              go_wp2_with fail
              go_ret2
              exact ⟨ret_lb (a := ([], false)) (by rw [HU.out]), hb'.out⟩
          · by_cases hk6 : k < 256
            · have hl6 : decide ((k : Int) < 256) = true := by simp; omega
              go_wp2_with fail
              go_roundw
              case rel => exact ⟨m, o', by omega, by omega, rfl, hR', hT', hO', hb'⟩
              case measure => simp [intOf]; omega
            · have hl6 : decide ((k : Int) < 256) = false := by simp; omega
              go_wp2_with fail
              go_roundw
              case rel => exact ⟨m, o', by omega, by omega, rfl, hR', hT', hO', hb'⟩
              case measure => simp [intOf]; omega
    · obtain rfl : n = s.size := by omega
      have hl : decide ((s.size : Int) < (s.size : Int)) = false := by simp
      have hsp := W.split_at s s.size o hT.out
      have HU : Hid (W.unqL s.data.toList = ([], false)) := by
        show _ = _
        have hd : s.data.toList.drop s.size = [] := List.drop_of_length_le (by rw [Array.length_toList]; exact Nat.le_refl _)
        exact W.unqL_no (W.at_mark hsp (Or.inl hd) (by rw [hd]; simp))
      have he : ((s.size : Int) == (s.size : Int) - 1) = false := beq_eq_false_iff_ne.2 (by omega)
      clear hsp hT hR
      go_wp2_with fail
      go_ret2
      exact ⟨ret_lb (a := ([], false)) (by rw [HU.out]), hb.out⟩

set_option maxRecDepth 100000 in
set_option maxHeartbeats 2000000 in
theorem refUnquote_any (s : ByteArray) (w : World) (hs : s.size ≤ 17592186044416) :
    Calls Tryd.prog 69 #[.string s] w fun e w' => e = .returned (.tuple #[.string ⟨(W.unqL s.data.toList).1.toArray⟩, .bool (W.unqL s.data.toList).2]) ∧ Below w.heap.size w w' := by
  by_cases h2 : 2 ≤ s.size
  · by_cases h34 : s[0].toNat = 34
    · exact refUnq_in s w hs h2 h34
    · have HU : Hid (W.unqL s.data.toList = ([], false)) := by
        show _ = _
        exact W.unqL_no (fun t ht => h34 ((W.quoteL_ends t s ht).2.1 (by omega)))
      have t0 : decide ((s.size : Int) < 2) = false := by simp; omega
      have t1 : ((s[0].toNat : Int) == 34) = false := beq_eq_false_iff_ne.2 (by omega)
      have t3 : ((s[0].toNat : Int) != 34) = true := by rw [bne, t1]; rfl
      clear h34
      go_enter Tryd.func69, Tryd.ntmps69
      go_wp2_with fail
      all_goals
        go_ret2
        exact ⟨ret_lb (a := ([], false)) (by rw [HU.out]), Below.refl _ _⟩
  · have HU : Hid (W.unqL s.data.toList = ([], false)) := by
      show _ = _
      exact W.unqL_no (fun t ht => h2 (W.quoteL_ends t s ht).1)
    have t0 : decide ((s.size : Int) < 2) = true := by simp; omega
    go_enter Tryd.func69, Tryd.ntmps69
    go_wp2_with fail
    go_ret2
    exact ⟨ret_lb (a := ([], false)) (by rw [HU.out]), Below.refl _ _⟩
end Go.Proofs.YtohdifffdgoaaaaDoor
