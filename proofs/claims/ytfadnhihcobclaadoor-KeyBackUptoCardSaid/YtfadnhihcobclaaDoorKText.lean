/- The walks of key.get and key.text; a byte appended to a row of the call's own. -/
import Derived.Test.YtfadnhihcobclaaDoorKPlainU
import Derived.Test.YtfadnhihcobclaaDoorKAfter
import Derived.Test.YtfadnhihcobclaaDoorStepOwn
import Derived.Laws.Closers25b
import Derived.Lib.AtoiErrMem
import Derived.OwnWalk
import Derived.Deep.AppendLies
namespace Go.Proofs.YtfadnhihcobclaaDoor
open Go.RowKit
open Go.Lib (hid)
open K
theorem wpList_push {ops : Array Oper} {rest : List Oper} {o : Oper} {a : Act} {Q : Exit → Act → World → Prop} {w : World} (hgd : o.guard = none) (s x : Operand)
    (ho : o.op = .call { callee := .builtin .append, args := #[s, x], argTypes := #[63, 63] }) (B : Nat) (l : List UInt8) (c : UInt8) (v : Value) (g : Nat) (hs : a.eval s = v) (hR : Row B l v w) (hx : a.eval x = .slice (some ⟨g, 0, none⟩) 1 1)
    (hg : w.heap[g]? = some (.cells #[.int .u8 c.toNat] 5 (0, 0))) (hl : l.length ≤ 100000000000000) (hB : B ≤ w.heap.size) (h : ∀ v' w', Row B (l ++ [c]) v' w' → w.grownBy w' v.ownBlock → wpList Tryd.prog ops Q rest (a.put o.dst v') w') : wpList Tryd.prog ops Q (o :: rest) a w := by
  obtain ⟨i0, hi, hz0, hz1, hz2⟩ := info_parts infoByte
  refine wpList_append_own _ hgd s x 63 ho B 5 i0 (.int .u8 0) 1 1 Tryd.underlying63 hi hz0 hz1 hz2 rfl (by decide) v l.length (Lib.byteCells l) hs hR ⟨g, 0, none⟩ 1 1 [.int .u8 c.toNat] hx rfl (World.news_of_block (cs := #[.int .u8 c.toNat]) (t := 5) (fr := (0, 0)) hg) (by intro u hu; simp at hu; subst hu; rfl) (by unfold maxLen; omega) (by omega) hB ?_
  intro v' w' h1 h2 _
  exact h v' w' (Row.of_push (c := c) h1) h2
theorem below_drewK {B : Nat} {a w : World} (h : Below B a w) (n : Nat) : Below B a (w.drewN n) := by
  induction n with
  | zero => exact h
  | succ n ih => exact ih.drew
/-- what text answers -/
def textV : Option (List UInt8 × List UInt8) → Value
  | none => .tuple #[.string ⟨#[]⟩, .string ⟨#[]⟩, .bool false]
  | some p => .tuple #[.string ⟨p.1.toArray⟩, .string ⟨p.2.toArray⟩, .bool true]
theorem ret_tx {a b : Option (List UInt8 × List UInt8)} (h : a = b) : Ending.returned (textV a) = .returned (textV b) := by rw [h]
theorem extract_eq (s : ByteArray) (n : Nat) : s.extract n s.size = ⟨(s.data.toList.drop n).toArray⟩ := by
  rw [← extract_from s n]
set_option maxRecDepth 100000 in
set_option maxHeartbeats 8000000 in
theorem text_any (s : ByteArray) (w : World) (hs : s.size ≤ 4000000) :
    Calls Tryd.prog 37 #[.string s] w fun e w' => e = .returned (textV (textL s.data.toList)) ∧ Below w.heap.size w w' := by
  obtain ⟨T, hT⟩ : ∃ T, textL s.data.toList = T := ⟨_, rfl⟩
  rw [hT]
  have HT := hid hT
  clear hT
  go_enter Tryd.func37, Tryd.ntmps37
  go_wp2_with fail
  go_loopw [5, 6] (fun v i wr => ∃ (n : Nat) (o : List UInt8), n ≤ s.size ∧ i = .int .i64 n ∧ Hid (Row w.heap.size o v wr) ∧ Hid (T = joinT o (textL (s.data.toList.drop n))) ∧ Hid (o.length ≤ n) ∧ Hid (Below w.heap.size w wr)) (fun _ i _ => s.size - (intOf i).toNat)
  case atStart => exact ⟨0, [], by omega, rfl, Row.nil _ _, by show T = _; rw [joinT_nil]; exact HT.out.symm, by show 0 ≤ 0; omega, Below.refl _ _⟩
  case round =>
    obtain ⟨n, o, hn, rfl, hR, hT, hO, hb⟩ := hrel
    clear HT
    have hol : o.length ≤ 100000000000000 := by have := hO.out; omega
    have hwr := hb.out.size
    by_cases hlt : n < s.size
    · have hl : decide ((n : Int) < (s.size : Int)) = true := by simp; omega
      have hd := drop_cons s n hlt
      by_cases h0 : s[n] = 0
      · have q0 : ((s[n].toNat : Int) != 0) = false := by rw [h0]; rfl
        rw [h0] at hd
        by_cases h1 : n + 1 = s.size
        · have q1 : ((n : Int) + 1 == (s.size : Int)) = true := beq_iff_eq.2 (by omega)
          have HN : Hid (T = none) := by
            show T = _
            rw [hT.out, hd, List.drop_of_length_le (by rw [Array.length_toList]; show s.size ≤ n + 1; omega)]; rfl
          clear hd h0 hT
          go_wp2_with fail
          go_ret3
          exact ⟨ret_tx (a := none) HN.out.symm, hb.out⟩
        · have h2 : n + 1 < s.size := by omega
          have q1 : ((n : Int) + 1 == (s.size : Int)) = false := beq_eq_false_iff_ne.2 (by omega)
          have hd2 := drop_cons s (n + 1) h2
          by_cases g0 : s[n + 1] = 0
          · have q2 : ((s[n + 1].toNat : Int) == 0) = true := by rw [g0]; rfl
            have HN : Hid (T = some (o, s.data.toList.drop (n + 1 + 1))) := by
              show T = _
              rw [hT.out, hd, hd2, g0, textL_end]; simp [joinT]
            have hconv := fun m => Row.conv (w := wr.drewN m) hR.out
            have HE := hid (p := s.extract (n + 1 + 1) s.size = _) (extract_eq s (n + 1 + 1))
            clear hd hd2 h0 g0 hT
            go_wp2_with fail
            go_quiet (fail)
            go_wp2_with fail
            go_ret3
            refine ⟨?_, below_drewK hb.out _⟩
            show Ending.returned (.tuple #[.string ⟨o.toArray⟩, .string (s.extract (n + 1 + 1) s.size), .bool true]) = _
            rw [HE.out, HN.out]
            rfl
          · have q2 : ((s[n + 1].toNat : Int) == 0) = false := beq_eq_false_iff_ne.2 (fun e => g0 (u8eq (b := 0) (by show _ = 0; omega)))
            by_cases g1 : s[n + 1] = 255
            · have q3 : ((s[n + 1].toNat : Int) != 255) = false := by rw [g1]; rfl
              have HN : Hid (T = joinT (o ++ [0]) (textL (s.data.toList.drop (n + 2)))) := by
                show T = _
                rw [hT.out, hd, hd2, g1, textL_zero, joinT_more]
              have hR0 : Row w.heap.size o u5 (wr.alloc (.cells #[.int .u8 0] 5)) := World.ownsRow.alloc hR.out _
              have hg0 := heap_alloc_new wr (.cells #[.int .u8 0] 5)
              have HR := hid hR.out
              clear hd hd2 h0 g0 g1 hT hR
              go_wp2_with (at_builtin; refine wpList_push rfl _ _ rfl w.heap.size o 0 _ wr.heap.size rfl hR0 rfl hg0 hol (by simp; omega) ?_; intro v' w3 hR3 hgrow)
              have B3 := hid ((hb.out.alloc hwr (.cells #[.int .u8 0] 5)).grown hgrow (by simp; omega) (fun k hk => (World.ownsRow.lt HR.out k hk).1))
              have R3 := hid hR3
              clear hR3 hgrow hR0 hg0
              go_wp2_with fail
              go_roundw
              case rel => exact ⟨n + 2, _, by omega, by go_num, R3, HN, by show List.length _ ≤ _; have := hO.out; simp; omega, B3⟩
              case measure => simp [intOf]; omega
            · have q3 : ((s[n + 1].toNat : Int) != 255) = true := by rw [bne_iff_ne]; exact fun e => g1 (u8eq (b := 255) (by show _ = 255; omega))
              have HN : Hid (T = none) := by
                show T = _
                rw [hT.out, hd, hd2, textL_no _ _ g0 g1]; rfl
              clear hd hd2 h0 g0 g1 hT
              go_wp2_with fail
              go_ret3
              exact ⟨ret_tx (a := none) HN.out.symm, hb.out⟩
      · have q0 : ((s[n].toNat : Int) != 0) = true := by rw [bne_iff_ne]; exact fun e => h0 (u8eq (b := 0) (by show _ = 0; omega))
        have HN : Hid (T = joinT (o ++ [s[n]]) (textL (s.data.toList.drop (n + 1)))) := by
          show T = _
          rw [hT.out, hd, textL_byte _ _ h0, joinT_more]
        have hR0 : Row w.heap.size o u5 (wr.alloc (.cells #[.int .u8 s[n].toNat] 5)) := World.ownsRow.alloc hR.out _
        have hg0 := heap_alloc_new wr (.cells #[.int .u8 s[n].toNat] 5)
        have HR := hid hR.out
        clear hd h0 hT hR
        go_wp2_with (at_builtin; refine wpList_push rfl _ _ rfl w.heap.size o s[n] _ wr.heap.size rfl hR0 rfl hg0 hol (by simp; omega) ?_; intro v' w3 hR3 hgrow)
        have B3 := hid ((hb.out.alloc hwr (.cells #[.int .u8 s[n].toNat] 5)).grown hgrow (by simp; omega) (fun k hk => (World.ownsRow.lt HR.out k hk).1))
        have R3 := hid hR3
        clear hR3 hgrow hR0 hg0
        go_wp2_with fail
        go_roundw
        case rel => exact ⟨n + 1, _, by omega, by go_num, R3, HN, by show List.length _ ≤ _; have := hO.out; simp; omega, B3⟩
        case measure => simp [intOf]; omega
    · have hl : decide ((n : Int) < (s.size : Int)) = false := by simp; omega
      have HN : Hid (T = none) := by
        show T = _
        rw [hT.out, List.drop_of_length_le (by rw [Array.length_toList]; show s.size ≤ n; omega)]; rfl
      clear hT
      go_wp2_with fail
      go_ret3
      exact ⟨ret_tx (a := none) HN.out.symm, hb.out⟩
end Go.Proofs.YtfadnhihcobclaaDoor
