/- The walk of strconv.ParseUint at two digits of base sixteen. -/
import Derived.Test.YtohdifffdgoaaaaDoorWHex
namespace Go.Proofs.YtohdifffdgoaaaaDoor
open Go.RowKit
open Go.Lib (hid)

set_option maxHeartbeats 4000000 in
set_option maxRecDepth 100000 in
theorem parseHex_any (t : ByteArray) (h2 : t.size = 2) (w : World) (hE : Errs w) :
    Calls Tryd.prog 87 #[.string t, .int .i64 16, .int .i64 8] w fun e w' =>
      (match W.hexP 0 t.data.toList with
        | some x => e = .returned (.tuple #[.int .u64 x, .nilIface])
        | none => ∃ N, e = .returned (.tuple #[.int .u64 0, .iface 133 (.pointer (some ⟨N, 0, none⟩))])) ∧ Below w.heap.size w w' := by
  have hI := innerUint_hex t h2 w
  cases hx : W.hexP 0 t.data.toList with
  | some x =>
    rw [hx] at hI
    clear hx
    simp only [hexT] at hI
    go_enter Tryd.func87, Tryd.ntmps87
    go_wp2_with fail
    refine hI.mono ?_
    rintro e w1 ⟨rfl, rfl⟩
    go_wp2_with fail
    go_ret2
    exact ⟨rfl, Lib.bytesWorld_below _ _ _⟩
  | none =>
    rw [hx] at hI
    clear hx
    simp only [hexT] at hI
    obtain ⟨⟨t1, p1, h1⟩, _⟩ := hE
    have hc : w.cell? ⟨3, 0, none⟩ = some (.iface t1 p1) := by
      have h0 := World.var?_cell (show Tryd.prog.globalNamed "strconv.ErrSyntax" = some 3 by kernel_rfl) h1 0
      simpa using h0
    have hlt := Lib.lt_of_cell hc
    have hc2 : (Lib.bytesWorld w 5 t).cell? ⟨3, 0, none⟩ = some (.iface t1 p1) := ((Lib.bytesWorld_below w 5 t).cell hlt).trans hc
    have hE := Any.strconv_toError_syntax (ρ := Tryd.laysC174_ren) { Tryd.laysC174 with } ⟨#[80, 97, 114, 115, 101, 85, 105, 110, 116]⟩ t 16 8 (.iface t1 p1) _ (by omega) hc2 (Or.inr ⟨_, _, rfl⟩)
    have hb0 := Lib.bytesWorld_below w 5 t
    obtain ⟨W1, hW1⟩ : ∃ W1, W1 = Lib.bytesWorld w 5 t := ⟨_, rfl⟩
    rw [← hW1] at hI hE hb0
    clear hW1 hc hc2 h1
    go_enter Tryd.func87, Tryd.ntmps87
    go_wp2_with fail
    refine hI.mono ?_
    rintro e w1 ⟨rfl, rfl⟩
    go_wp2_with fail
    refine hE.mono ?_
    rintro e w2 ⟨N, rfl, _, _, hb⟩
    go_wp2_with fail
    go_ret2
    exact ⟨⟨N, rfl⟩, hb0.trans (hb.mono hb0.size)⟩
end Go.Proofs.YtohdifffdgoaaaaDoor
