/- The walks of the reference's Byte and Quote. -/
import Derived.Test.YtohdifffdgoaaaaDoorWQuote
import Derived.Test.YtohdifffdgoaaaaDoorWNum
import Derived.Deep.QuietTactic
import Derived.BigQuiet
namespace Go.Proofs.YtohdifffdgoaaaaDoor
open Go.RowKit
open Go.Lib (hid)

theorem ret_l {a b : List UInt8} (h : a = b) : Ending.returned (.string ⟨a.toArray⟩) = .returned (.string ⟨b.toArray⟩) := by rw [h]

theorem below_drewN (w : World) (n : Nat) : Below w.heap.size w (w.drewN n) := by
  induction n with
  | zero => exact Below.refl _ _
  | succ n ih => rw [← World.drew_drewN]; exact ih.drew
set_option maxRecDepth 100000 in
set_option maxHeartbeats 4000000 in
theorem refByte_any (c : UInt8) (w : World) :
    Calls Tryd.prog 89 #[.int .u8 c.toNat] w fun e w' => e = .returned (.string ⟨(W.byteQ c).toArray⟩) ∧ Below w.heap.size w w' := by
  have hb := c.toNat_lt
  by_cases c0 : c.toNat = 34
  · have HQ : Hid (W.byteQ c = [92, 34]) := by
      show _ = _
      unfold W.byteQ; rw [if_pos (Or.inl c0)]; congr 1; congr 1; exact UInt8.toNat_inj.1 c0
    have t0 : ((c.toNat : Int) == 34) = true := beq_iff_eq.2 (by omega)
    go_enter Tryd.func89, Tryd.ntmps89
    go_wp2_with fail
    go_ret
    exact ⟨ret_l HQ.out.symm, by first | exact Below.refl _ _ | exact below_drewN _ _⟩
  · have t0 : ((c.toNat : Int) == 34) = false := beq_eq_false_iff_ne.2 (by omega)
    by_cases c1 : c.toNat = 92
    · have HQ : Hid (W.byteQ c = [92, 92]) := by
        show _ = _
        unfold W.byteQ; rw [if_pos (Or.inr c1)]; congr 1; congr 1; exact UInt8.toNat_inj.1 c1
      have t1 : ((c.toNat : Int) == 92) = true := beq_iff_eq.2 (by omega)
      go_enter Tryd.func89, Tryd.ntmps89
      go_wp2_with fail
      go_ret
      exact ⟨ret_l HQ.out.symm, by first | exact Below.refl _ _ | exact below_drewN _ _⟩
    · have t1 : ((c.toNat : Int) == 92) = false := beq_eq_false_iff_ne.2 (by omega)
      by_cases c2 : c.toNat = 10
      · have HQ : Hid (W.byteQ c = [92, 110]) := by
          show _ = _
          unfold W.byteQ; rw [if_neg (by omega), if_pos c2]
        have t2 : ((c.toNat : Int) == 10) = true := beq_iff_eq.2 (by omega)
        go_enter Tryd.func89, Tryd.ntmps89
        go_wp2_with fail
        go_ret
        exact ⟨ret_l HQ.out.symm, by first | exact Below.refl _ _ | exact below_drewN _ _⟩
      · have t2 : ((c.toNat : Int) == 10) = false := beq_eq_false_iff_ne.2 (by omega)
        by_cases c3 : c.toNat < 32 ∨ 126 < c.toNat
        · have HQ : Hid (W.byteQ c = [92, 120, W.hexD (c.toNat / 16), W.hexD (c.toNat % 16)]) := by
            show _ = _
            unfold W.byteQ; rw [if_neg (by omega), if_neg c2, if_pos c3]
          have w1 : IntKind.u8.wrap ((c.toNat : Int) / 16 + 1) = (c.toNat : Int) / 16 + 1 := IntWalk.u8_in _ (by omega)
          have w2 : IntKind.u8.wrap ((c.toNat : Int) % 16 + 1) = (c.toNat : Int) % 16 + 1 := IntWalk.u8_in _ (by omega)
          have x1 := hex_div c.toNat hb
          have x2 := hex_mod c.toNat
          have hcat1 : ∀ X : World, (Op.stringOp .add (⟨#[92, 120]⟩ : ByteArray) ⟨#[W.hexD (c.toNat / 16)]⟩).run Tryd.prog X = .ok (.string ⟨#[92, 120, W.hexD (c.toNat / 16)]⟩) X := fun X => run_string_add_lists X [92, 120] [W.hexD (c.toNat / 16)] (by simp) (by simp)
          have hcat2 : ∀ X : World, (Op.stringOp .add (⟨#[92, 120, W.hexD (c.toNat / 16)]⟩ : ByteArray) ⟨#[W.hexD (c.toNat % 16)]⟩).run Tryd.prog X = .ok (.string ⟨#[92, 120, W.hexD (c.toNat / 16), W.hexD (c.toNat % 16)]⟩) X := fun X => run_string_add_lists X [92, 120, W.hexD (c.toNat / 16)] [W.hexD (c.toNat % 16)] (by simp) (by simp)
          have h3 : decide ((c.toNat : Int) < 32) = true ∨ (decide ((c.toNat : Int) < 32) = false ∧ decide ((126 : Int) < (c.toNat : Int)) = true) := by
            rcases Nat.lt_or_ge c.toNat 32 with h | h
            · left; simp; omega
            · right; exact ⟨by simp; omega, by simp; omega⟩
          clear c0 c1 c2 c3
          rcases h3 with t3 | ⟨t3, t4⟩
          all_goals
            go_enter Tryd.func89, Tryd.ntmps89
            go_wp2_with fail
            go_quiet (fail)
            go_wp2_with fail
            go_ret
            exact ⟨ret_l HQ.out.symm, by first | exact Below.refl _ _ | exact below_drewN _ _⟩
        · have HQ : Hid (W.byteQ c = [c]) := by
            show _ = _
            unfold W.byteQ; rw [if_neg (by omega), if_neg c2, if_neg c3]
          have t3 : decide ((c.toNat : Int) < 32) = false := by simp; omega
          have t4 : decide ((126 : Int) < (c.toNat : Int)) = false := by simp; omega
          have hc := conv_new w [(c.toNat : Int)] 1 rfl
          simp only [List.map_cons, List.map_nil, Int.toNat_natCast, UInt8.ofNat_toNat] at hc
          clear c0 c1 c2 c3
          go_enter Tryd.func89, Tryd.ntmps89
          go_wp2_with fail
          go_ret
          exact ⟨ret_l HQ.out.symm, (Below.refl _ w).alloc (Nat.le_refl _) _⟩
end Go.Proofs.YtohdifffdgoaaaaDoor
