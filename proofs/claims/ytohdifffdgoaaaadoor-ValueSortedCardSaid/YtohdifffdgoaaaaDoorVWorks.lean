/- The walk of the law's works. -/
import Derived.Test.YtohdifffdgoaaaaDoorVPut
import Derived.Test.YtohdifffdgoaaaaDoorVParse
import Derived.Test.YtohdifffdgoaaaaDoorVAllP
namespace Go.Proofs.YtohdifffdgoaaaaDoor
open Go.RowKit
open Go.Lib (hid itoa)
open V
namespace V
def sX : ByteArray := ⟨#[120]⟩
def egVars : List Bind := [⟨⟨#[120]⟩, ⟨1, 1, false, ⟨#[]⟩⟩⟩, ⟨⟨#[121]⟩, ⟨3, 0, false, ⟨#[97]⟩⟩⟩]
def egPatch : List Bind := [⟨⟨#[121]⟩, ⟨3, 0, false, ⟨#[98]⟩⟩⟩]
def egOut : List Bind := [⟨⟨#[120]⟩, ⟨1, 1, false, ⟨#[]⟩⟩⟩, ⟨⟨#[121]⟩, ⟨3, 0, false, ⟨#[98]⟩⟩⟩]
theorem eg_check1 : checkB egVars = 0 := by decide +kernel
theorem eg_check2 : checkB egPatch = 0 := by decide +kernel
theorem eg_put : put egVars egPatch = (egOut, 0) := by
  unfold put
  rw [if_neg (by simp [eg_check1]), if_neg (by simp [eg_check2])]
  rfl
theorem eg_parse : parseP 3 ⟨#[34, 97, 34]⟩ = (⟨3, 0, false, ⟨#[97]⟩⟩, 0) := by
  have hq : W.unqL [34, 97, 34] = ([97], true) := W.unqL_of (t := [97]) (by decide +kernel)
  have hok : ok ⟨3, 0, false, ⟨#[97]⟩⟩ = true := by decide +kernel
  unfold parseP
  rw [if_neg (by decide), if_neg (by decide), if_pos rfl]
  rw [show (⟨#[34, 97, 34]⟩ : ByteArray).data.toList = [34, 97, 34] from rfl, hq]
  rw [if_pos ⟨rfl, hok⟩]
theorem eg_add : on (fun n n' => ranged (n + n')) ⟨1, 2, false, ⟨#[]⟩⟩ ⟨1, 3, false, ⟨#[]⟩⟩ = num 5 := by
  unfold on; rw [if_pos (show (isInt _ && isInt _) = true from rfl)]; exact ranged_yes ⟨by decide, by decide⟩
theorem eg_div : on divR ⟨1, -7, false, ⟨#[]⟩⟩ ⟨1, 2, false, ⟨#[]⟩⟩ = num (-3) := by
  unfold on divR; rw [if_pos (show (isInt _ && isInt _) = true from rfl), if_neg (by decide)]; exact ranged_yes ⟨by decide, by decide⟩
end V
theorem eql_same (k : Nat) (n : Int) (b : Bool) (s : ByteArray) (W : World) : (binOp .eql 23 (.agg #[.int .u8 k, .int .i64 n, .bool b, .string s]) (.agg #[.int .u8 k, .int .i64 n, .bool b, .string s])).run Tryd.prog W = .ok (.bool true) W := by
  rw [eql_value]; simp
/-- what the walk of works knows of its own memory -/
structure WS (x y z g : Nat) (w r : World) : Prop where
  hb : Below w.heap.size w r
  fx : r.heap[x]? = some (.cells #[.int .u8 (1 : Nat), .int .i64 5, .bool false, .string ⟨#[]⟩] 23 (0, 0))
  fy : r.heap[y]? = some (.cells #[.int .u8 (1 : Nat), .int .i64 (-3), .bool false, .string ⟨#[]⟩] 23 (0, 0))
  fz : r.heap[z]? = some (.cells #[.int .u8 (3 : Nat), .int .i64 0, .bool false, .string ⟨#[97]⟩] 23 (0, 0))
  lt : g < r.heap.size
  o0 : r.cell? ⟨g, 6, none⟩ = some (.int .u8 (3 : Nat))
  o1 : r.cell? ⟨g, 7, none⟩ = some (.int .i64 0)
  o2 : r.cell? ⟨g, 8, none⟩ = some (.bool false)
  o3 : r.cell? ⟨g, 9, none⟩ = some (.string ⟨#[98]⟩)
theorem WS.below {x y z g : Nat} {w r r' : World} (h : WS x y z g w r) (b : Below r.heap.size r r') : WS x y z g w r' where
  hb := h.hb.trans (b.mono h.hb.size)
  fx := (b.block _ (Go.lt_of_block h.fx)).trans h.fx
  fy := (b.block _ (Go.lt_of_block h.fy)).trans h.fy
  fz := (b.block _ (Go.lt_of_block h.fz)).trans h.fz
  lt := Nat.lt_of_lt_of_le h.lt b.size
  o0 := (b.cell (p := ⟨g, 6, none⟩) h.lt).trans h.o0
  o1 := (b.cell (p := ⟨g, 7, none⟩) h.lt).trans h.o1
  o2 := (b.cell (p := ⟨g, 8, none⟩) h.lt).trans h.o2
  o3 := (b.cell (p := ⟨g, 9, none⟩) h.lt).trans h.o3
theorem WS.drew {x y z g : Nat} {w r : World} (h : WS x y z g w r) : WS x y z g w r.drew := ⟨h.hb.drew, h.fx, h.fy, h.fz, h.lt, h.o0, h.o1, h.o2, h.o3⟩
theorem WS.env {x y z g : Nat} {w r : World} (hE : Hid (VEnv w)) (h : Hid (WS x y z g w r)) : VEnv r := hE.out.below h.out.hb
theorem WS.after {x y z g : Nat} {w r r' : World} (h : Hid (WS x y z g w r)) (b : Below r.heap.size r r') : Hid (WS x y z g w r') := h.out.below b
theorem WS.cells {x y z g : Nat} {w r : World} (h : Hid (WS x y z g w r)) : World.cell? r ⟨x, 0, none⟩ = some (.int .u8 1) ∧ World.cell? r ⟨x, 1, none⟩ = some (.int .i64 5) ∧ World.cell? r ⟨x, 2, none⟩ = some (.bool false) ∧ World.cell? r ⟨x, 3, none⟩ = some (.string ⟨#[]⟩) ∧ World.cell? r ⟨y, 0, none⟩ = some (.int .u8 1) ∧ World.cell? r ⟨y, 1, none⟩ = some (.int .i64 (-3)) ∧ World.cell? r ⟨y, 2, none⟩ = some (.bool false) ∧ World.cell? r ⟨y, 3, none⟩ = some (.string ⟨#[]⟩) ∧ World.cell? r ⟨z, 0, none⟩ = some (.int .u8 3) ∧ World.cell? r ⟨z, 1, none⟩ = some (.int .i64 0) ∧ World.cell? r ⟨z, 2, none⟩ = some (.bool false) ∧ World.cell? r ⟨z, 3, none⟩ = some (.string ⟨#[97]⟩) ∧ World.cell? r ⟨g, 6, none⟩ = some (.int .u8 3) ∧ World.cell? r ⟨g, 7, none⟩ = some (.int .i64 0) ∧ World.cell? r ⟨g, 8, none⟩ = some (.bool false) ∧ World.cell? r ⟨g, 9, none⟩ = some (.string ⟨#[98]⟩) ∧ Hid (WS x y z g w r) := by
  obtain ⟨a0, a1, a2, a3⟩ := row4 h.out.fx
  obtain ⟨b0, b1, b2, b3⟩ := row4 h.out.fy
  obtain ⟨c0, c1, c2, c3⟩ := row4 h.out.fz
  exact ⟨a0, a1, a2, a3, b0, b1, b2, b3, c0, c1, c2, c3, h.out.o0, h.out.o1, h.out.o2, h.out.o3, h⟩
theorem ofW {p0 p1 p2 p3 p4 p5 p6 p7 p8 p9 p10 p11 p12 p13 p14 p15 Q : Prop} (h : p0 ∧ p1 ∧ p2 ∧ p3 ∧ p4 ∧ p5 ∧ p6 ∧ p7 ∧ p8 ∧ p9 ∧ p10 ∧ p11 ∧ p12 ∧ p13 ∧ p14 ∧ p15 ∧ Q) : Q := h.2.2.2.2.2.2.2.2.2.2.2.2.2.2.2.2

set_option maxRecDepth 100000 in
set_option maxHeartbeats 20000000 in
theorem works_any (w : World) (hE : VEnv w) : Calls Tryd.prog 40 #[] w fun e w' => e = .returned (.bool true) ∧ Below w.heap.size w w' := by
  have cA := fun X (hX : Tabs X) => addV ⟨1, 2, false, ⟨#[]⟩⟩ ⟨1, 3, false, ⟨#[]⟩⟩ X hX ⟨by decide, by decide⟩ ⟨by decide, by decide⟩
  have cD := fun X (hX : Tabs X) => divV ⟨1, -7, false, ⟨#[]⟩⟩ ⟨1, 2, false, ⟨#[]⟩⟩ X hX ⟨by decide, by decide⟩
  rw [eg_add] at cA
  rw [eg_div] at cD
  replace cA : ∀ X, Tabs X → Calls Tryd.prog 12 #[.agg #[.int .u8 1, .int .i64 2, .bool false, .string ⟨#[]⟩], .agg #[.int .u8 1, .int .i64 3, .bool false, .string ⟨#[]⟩]] X fun e w' => e = .returned (.tuple #[.agg #[.int .u8 1, .int .i64 5, .bool false, .string ⟨#[]⟩], .int .i64 0]) ∧ Below X.heap.size X w' := cA
  replace cD : ∀ X, Tabs X → Calls Tryd.prog 17 #[.agg #[.int .u8 1, .int .i64 (-7), .bool false, .string ⟨#[]⟩], .agg #[.int .u8 1, .int .i64 2, .bool false, .string ⟨#[]⟩]] X fun e w' => e = .returned (.tuple #[.agg #[.int .u8 1, .int .i64 (-3), .bool false, .string ⟨#[]⟩], .int .i64 0]) ∧ Below X.heap.size X w' := cD
  have cP := fun X (hX : VEnv X) => parseV 3 ⟨#[34, 97, 34]⟩ X hX (by decide)
  rw [eg_parse] at cP
  replace cP : ∀ X, VEnv X → Calls Tryd.prog 32 #[.int .u8 3, .string ⟨#[34, 97, 34]⟩] X fun e w' => e = .returned (.tuple #[.agg #[.int .u8 3, .int .i64 0, .bool false, .string ⟨#[97]⟩], .int .i64 0]) ∧ Below X.heap.size X w' := cP
  have cT := fun X (hX : VEnv X) => textV ⟨2, 0, true, ⟨#[]⟩⟩ X hX (by decide) (by decide)
  rw [text_tru] at cT
  replace cT : ∀ X, VEnv X → Calls Tryd.prog 38 #[.agg #[.int .u8 2, .int .i64 0, .bool true, .string ⟨#[]⟩]] X fun e w' => e = .returned (.string ⟨#[116, 114, 117, 101]⟩) ∧ Below X.heap.size X w' := cT
  have HE := hid hE
  clear hE
  go_enter Tryd.func40, Tryd.ntmps40
  go_wp2_with fail
  refine (vnumber_any 2 _).mono ?_
  rintro e w1 ⟨rfl, bb⟩
  have B1 := hid bb
  clear bb
  go_wp2_with fail
  refine (vnumber_any 3 _).mono ?_
  rintro e w2 ⟨rfl, bb⟩
  have B2 := hid (B1.out.trans (bb.mono B1.out.size))
  clear bb B1
  go_wp2_with fail
  refine (cA _ (HE.out.below B2.out).tabs).mono ?_
  rintro e w3 ⟨rfl, bb⟩
  have B3 := hid (B2.out.trans (bb.mono B2.out.size))
  clear bb B2 cA
  go_upto_region 2 with fail
  have gx := heap_alloc_new w3 (.cells #[.int .u8 1, .int .i64 5, .bool false, .string ⟨#[]⟩] 23)
  have B4 := hid (B3.out.alloc B3.out.size (.cells #[.int .u8 1, .int .i64 5, .bool false, .string ⟨#[]⟩] 23))
  clear B3
  generalize World.alloc w3 _ = w4 at *
  obtain ⟨x, hx⟩ : ∃ x, w3.heap.size = x := ⟨_, rfl⟩
  rw [hx] at gx ⊢
  clear hx
  have Fx := hid gx
  clear gx
  go_wp2_with fail
  refine (vnumber_any (-7) _).mono ?_
  rintro e w5 ⟨rfl, bb⟩
  have fx := (bb.block _ (Go.lt_of_block Fx.out)).trans Fx.out
  clear Fx
  have Fx := hid fx
  clear fx
  have B5 := hid (B4.out.trans (bb.mono B4.out.size))
  clear bb B4
  go_wp2_with fail
  refine (vnumber_any 2 _).mono ?_
  rintro e w6 ⟨rfl, bb⟩
  have fx := (bb.block _ (Go.lt_of_block Fx.out)).trans Fx.out
  clear Fx
  have Fx := hid fx
  clear fx
  have B6 := hid (B5.out.trans (bb.mono B5.out.size))
  clear bb B5
  go_wp2_with fail
  refine (cD _ (HE.out.below B6.out).tabs).mono ?_
  rintro e w7 ⟨rfl, bb⟩
  have fx := (bb.block _ (Go.lt_of_block Fx.out)).trans Fx.out
  clear Fx
  have Fx := hid fx
  clear fx
  have B7 := hid (B6.out.trans (bb.mono B6.out.size))
  clear bb B6 cD
  go_upto_region 3 with fail
  have fx := Fx.out
  have gy := heap_alloc_new w7 (.cells #[.int .u8 1, .int .i64 (-3), .bool false, .string ⟨#[]⟩] 23)
  rw [← Lib.alloc_old w7 (.cells #[.int .u8 1, .int .i64 (-3), .bool false, .string ⟨#[]⟩] 23) _ (Go.lt_of_block fx)] at fx
  have B8 := hid (B7.out.alloc B7.out.size (.cells #[.int .u8 1, .int .i64 (-3), .bool false, .string ⟨#[]⟩] 23))
  clear B7
  generalize World.alloc w7 _ = w8 at *
  obtain ⟨y, hy⟩ : ∃ y, w7.heap.size = y := ⟨_, rfl⟩
  rw [hy] at gy ⊢
  clear hy
  have Fy := hid gy
  clear gy
  clear Fx
  have Fx := hid fx
  clear fx
  go_wp2_with fail
  refine (vnumber_any 1 _).mono ?_
  rintro e w9 ⟨rfl, bb⟩
  have fx := (bb.block _ (Go.lt_of_block Fx.out)).trans Fx.out
  clear Fx
  have Fx := hid fx
  clear fx
  have fy := (bb.block _ (Go.lt_of_block Fy.out)).trans Fy.out
  clear Fy
  have Fy := hid fy
  clear fy
  have B9 := hid (B8.out.trans (bb.mono B8.out.size))
  clear bb B8
  go_wp2_with fail
  refine (words_any ⟨#[97]⟩ _).mono ?_
  rintro e w10 ⟨rfl, bb⟩
  have fx := (bb.block _ (Go.lt_of_block Fx.out)).trans Fx.out
  clear Fx
  have Fx := hid fx
  clear fx
  have fy := (bb.block _ (Go.lt_of_block Fy.out)).trans Fy.out
  clear Fy
  have Fy := hid fy
  clear fy
  have B10 := hid (B9.out.trans (bb.mono B9.out.size))
  clear bb B9
  have B11 := hid (B10.out.alloc B10.out.size (.cells #[.string ⟨#[120]⟩, .int .u8 1, .int .i64 1, .bool false, .string ⟨#[]⟩, .string ⟨#[121]⟩, .int .u8 3, .int .i64 0, .bool false, .string ⟨#[97]⟩] 43))
  have hv1 : BIn (w10.alloc (.cells #[.string ⟨#[120]⟩, .int .u8 1, .int .i64 1, .bool false, .string ⟨#[]⟩, .string ⟨#[121]⟩, .int .u8 3, .int .i64 0, .bool false, .string ⟨#[97]⟩] 43)) egVars (.slice (some ⟨w10.heap.size, 0, none⟩) 2 2) := by
    refine Or.inr ⟨by decide, w10.heap.size, 0, 2, rfl, by decide, fun j u hj => ?_⟩
    rw [cell_of_row _ _ _ _ _ _ (heap_alloc_new w10 _), Nat.zero_add]
    simpa [egVars, rowB, Bind.cells] using hj
  have HV1 := hid hv1
  have HS1 := hid (show w10.heap.size < (w10.alloc (.cells #[.string ⟨#[120]⟩, .int .u8 1, .int .i64 1, .bool false, .string ⟨#[]⟩, .string ⟨#[121]⟩, .int .u8 3, .int .i64 0, .bool false, .string ⟨#[97]⟩] 43)).heap.size by simp)
  have fx := (((Below.refl w10.heap.size w10).alloc (Nat.le_refl _) (.cells #[.string ⟨#[120]⟩, .int .u8 1, .int .i64 1, .bool false, .string ⟨#[]⟩, .string ⟨#[121]⟩, .int .u8 3, .int .i64 0, .bool false, .string ⟨#[97]⟩] 43)).block _ (Go.lt_of_block Fx.out)).trans Fx.out
  have fy := (((Below.refl w10.heap.size w10).alloc (Nat.le_refl _) (.cells #[.string ⟨#[120]⟩, .int .u8 1, .int .i64 1, .bool false, .string ⟨#[]⟩, .string ⟨#[121]⟩, .int .u8 3, .int .i64 0, .bool false, .string ⟨#[97]⟩] 43)).block _ (Go.lt_of_block Fy.out)).trans Fy.out
  clear hv1 B10 Fx Fy
  have Fx := hid fx
  have Fy := hid fy
  clear fx fy
  go_wp2_with fail
  refine (words_any ⟨#[98]⟩ _).mono ?_
  rintro e w12 ⟨rfl, bb⟩
  have fx := (bb.block _ (Go.lt_of_block Fx.out)).trans Fx.out
  clear Fx
  have Fx := hid fx
  clear fx
  have fy := (bb.block _ (Go.lt_of_block Fy.out)).trans Fy.out
  clear Fy
  have Fy := hid fy
  clear fy
  have B12 := hid (B11.out.trans (bb.mono B11.out.size))
  have HV2 := hid (HV1.out.below bb)
  clear bb B11 HV1 HS1
  have B13 := hid (B12.out.alloc B12.out.size (.cells #[.string ⟨#[121]⟩, .int .u8 3, .int .i64 0, .bool false, .string ⟨#[98]⟩] 43))
  have bA := (Below.refl w12.heap.size w12).alloc (Nat.le_refl _) (.cells #[.string ⟨#[121]⟩, .int .u8 3, .int .i64 0, .bool false, .string ⟨#[98]⟩] 43)
  have hp : BIn (w12.alloc (.cells #[.string ⟨#[121]⟩, .int .u8 3, .int .i64 0, .bool false, .string ⟨#[98]⟩] 43)) egPatch (.slice (some ⟨w12.heap.size, 0, none⟩) 1 1) := by
    refine Or.inr ⟨by decide, w12.heap.size, 0, 1, rfl, by decide, fun j u hj => ?_⟩
    rw [cell_of_row _ _ _ _ _ _ (heap_alloc_new w12 _), Nat.zero_add]
    simpa [egPatch, rowB, Bind.cells] using hj
  have fx := (bA.block _ (Go.lt_of_block Fx.out)).trans Fx.out
  have fy := (bA.block _ (Go.lt_of_block Fy.out)).trans Fy.out
  have cU := vput_any egVars egPatch _ _ _ (HV2.out.below bA) hp (HE.out.below B13.out).tabs (by decide) (by decide) (by decide) (by decide)
  rw [eg_put] at cU
  replace cU : Calls Tryd.prog 25 _ _ fun e w' => ∃ v, e = .returned (.tuple #[v, .int .i64 0]) ∧ BOwn _ egOut v w' ∧ Below _ _ w' := cU
  clear hp bA HV2 B12 Fx Fy
  have Fx := hid fx
  have Fy := hid fy
  clear fx fy
  go_wp2_with fail
  refine cU.mono ?_
  rintro e w14 ⟨v, rfl, hv, bb⟩
  have fx := (bb.block _ (Go.lt_of_block Fx.out)).trans Fx.out
  clear Fx
  have Fx := hid fx
  clear fx
  have fy := (bb.block _ (Go.lt_of_block Fy.out)).trans Fy.out
  clear Fy
  have Fy := hid fy
  clear fy
  have B14 := hid (B13.out.trans (bb.mono B13.out.size))
  clear bb B13 cU
  obtain ⟨g, cap, rfl, hcap, hgB⟩ : ∃ g cap, v = .slice (some ⟨g, 0, none⟩) 2 cap ∧ 2 ≤ cap ∧ g < w14.heap.size := by
    rcases hv.form with ⟨_, h⟩ | ⟨g, cap, h, h2, _⟩
    · cases h
    · exact ⟨g, cap, h, h2, (World.ownsRow.lt hv g (by rw [h]; rfl)).2⟩
  have o0 := World.ownsRow.cellAt hv 6 (by decide)
  have o1 := World.ownsRow.cellAt hv 7 (by decide)
  have o2 := World.ownsRow.cellAt hv 8 (by decide)
  have o3 := World.ownsRow.cellAt hv 9 (by decide)
  have HO := hid (And.intro o0 (And.intro o1 (And.intro o2 o3)))
  clear hv o0 o1 o2 o3
  go_wp2_with fail
  refine (cP _ (HE.out.below B14.out)).mono ?_
  rintro e w15 ⟨rfl, bb⟩
  have fx := (bb.block _ (Go.lt_of_block Fx.out)).trans Fx.out
  clear Fx
  have Fx := hid fx
  clear fx
  have fy := (bb.block _ (Go.lt_of_block Fy.out)).trans Fy.out
  clear Fy
  have Fy := hid fy
  clear fy
  have B15 := hid (B14.out.trans (bb.mono B14.out.size))
  have o0 := (bb.cell (p := ⟨g, 6, none⟩) hgB).trans HO.out.1
  have o1 := (bb.cell (p := ⟨g, 7, none⟩) hgB).trans HO.out.2.1
  have o2 := (bb.cell (p := ⟨g, 8, none⟩) hgB).trans HO.out.2.2.1
  have o3 := (bb.cell (p := ⟨g, 9, none⟩) hgB).trans HO.out.2.2.2
  have hg5 := Nat.lt_of_lt_of_le hgB bb.size
  clear bb B14 cP HO hgB
  go_upto_region 5 with fail
  have bA := (Below.refl w15.heap.size w15).alloc (Nat.le_refl _) (.cells #[.int .u8 3, .int .i64 0, .bool false, .string ⟨#[97]⟩] 23)
  have HW : Hid (WS x y w15.heap.size g w (w15.alloc (.cells #[.int .u8 3, .int .i64 0, .bool false, .string ⟨#[97]⟩] 23))) := ⟨B15.out.alloc B15.out.size _, (bA.block _ (Go.lt_of_block Fx.out)).trans Fx.out, (bA.block _ (Go.lt_of_block Fy.out)).trans Fy.out, heap_alloc_new w15 _, by simp; omega, (bA.cell (p := ⟨g, 6, none⟩) hg5).trans o0, (bA.cell (p := ⟨g, 7, none⟩) hg5).trans o1, (bA.cell (p := ⟨g, 8, none⟩) hg5).trans o2, (bA.cell (p := ⟨g, 9, none⟩) hg5).trans o3⟩
  clear bA Fx Fy B15 o0 o1 o2 o3 hg5
  generalize World.alloc w15 _ = w16 at *
  obtain ⟨z, hz⟩ : ∃ z, w15.heap.size = z := ⟨_, rfl⟩
  rw [hz] at HW ⊢
  clear hz
  have e1 := fun W => eql_same 1 5 false ⟨#[]⟩ W
  have e2 := fun W => eql_same 1 (-3) false ⟨#[]⟩ W
  have e3 := fun W => eql_same 3 0 false ⟨#[98]⟩ W
  have e4 := fun W => eql_same 3 0 false ⟨#[97]⟩ W
  replace e1 : ∀ W : World, (binOp .eql 23 (.agg #[.int .u8 1, .int .i64 5, .bool false, .string ⟨#[]⟩]) (.agg #[.int .u8 1, .int .i64 5, .bool false, .string ⟨#[]⟩])).run Tryd.prog W = .ok (.bool true) W := e1
  replace e2 : ∀ W : World, (binOp .eql 23 (.agg #[.int .u8 1, .int .i64 (-3), .bool false, .string ⟨#[]⟩]) (.agg #[.int .u8 1, .int .i64 (-3), .bool false, .string ⟨#[]⟩])).run Tryd.prog W = .ok (.bool true) W := e2
  replace e3 : ∀ W : World, (binOp .eql 23 (.agg #[.int .u8 3, .int .i64 0, .bool false, .string ⟨#[98]⟩]) (.agg #[.int .u8 3, .int .i64 0, .bool false, .string ⟨#[98]⟩])).run Tryd.prog W = .ok (.bool true) W := e3
  replace e4 : ∀ W : World, (binOp .eql 23 (.agg #[.int .u8 3, .int .i64 0, .bool false, .string ⟨#[97]⟩]) (.agg #[.int .u8 3, .int .i64 0, .bool false, .string ⟨#[97]⟩])).run Tryd.prog W = .ok (.bool true) W := e4
  go_region_held3 (fun w' => World.cell? w' ⟨x, 0, none⟩ = some (.int .u8 1) ∧ World.cell? w' ⟨x, 1, none⟩ = some (.int .i64 5) ∧ World.cell? w' ⟨x, 2, none⟩ = some (.bool false) ∧ World.cell? w' ⟨x, 3, none⟩ = some (.string ⟨#[]⟩) ∧ World.cell? w' ⟨y, 0, none⟩ = some (.int .u8 1) ∧ World.cell? w' ⟨y, 1, none⟩ = some (.int .i64 (-3)) ∧ World.cell? w' ⟨y, 2, none⟩ = some (.bool false) ∧ World.cell? w' ⟨y, 3, none⟩ = some (.string ⟨#[]⟩) ∧ World.cell? w' ⟨z, 0, none⟩ = some (.int .u8 3) ∧ World.cell? w' ⟨z, 1, none⟩ = some (.int .i64 0) ∧ World.cell? w' ⟨z, 2, none⟩ = some (.bool false) ∧ World.cell? w' ⟨z, 3, none⟩ = some (.string ⟨#[97]⟩) ∧ World.cell? w' ⟨g, 6, none⟩ = some (.int .u8 3) ∧ World.cell? w' ⟨g, 7, none⟩ = some (.int .i64 0) ∧ World.cell? w' ⟨g, 8, none⟩ = some (.bool false) ∧ World.cell? w' ⟨g, 9, none⟩ = some (.string ⟨#[98]⟩) ∧ Hid (WS x y z g w w'))
    (first
      | assumption
      | exact WS.cells (hid HW.out.drew)
      | exact WS.cells (WS.after (ofW (by assumption)) bb))
    (first
      | (go_at_call 42; refine (vnumber_any _ _).mono ?_; rintro e ww ⟨rfl, bb⟩)
      | (go_at_call 44; refine (words_any _ _).mono ?_; rintro e ww ⟨rfl, bb⟩)
      | (go_at_call 45; refine (truth_any _ _).mono ?_; rintro e ww ⟨rfl, bb⟩)
      | (go_at_call 38; refine (cT _ (WS.env HE (ofW (by assumption)))).mono ?_; rintro e ww ⟨rfl, bb⟩))
  all_goals
    go_split_ands
    have B2 := hid (Hid.out (p := WS _ _ _ _ w _) (by assumption)).hb
    go_wp2_with fail
    go_ret
    exact ⟨rfl, B2.out⟩
end Go.Proofs.YtohdifffdgoaaaaDoor
