/- The reader: names. -/
import Derived.Test.YtakplnceiibmlaaGreatDoorMRd4
import Derived.Deep.Cut
import Derived.Laws.Rows
namespace Go.Proofs.YtakplnceiibmlaaGreatDoor
open Go.RowKit
open Go.Lib (hid)
theorem infoName : (Tryz.prog.info? 75).map (·.size) = some 2 := by kernel_rfl
theorem Rd.put {w W : World} {R p c X : Nat} {s : ByteArray} (h : Rd w R s p c W) (hX : w.heap.size ≤ X) (i : Nat) (v : Value) : Rd w R s p c (W.setCell ⟨X, i, none⟩ v) := by
  have hg := grownBy_set W X i v
  have hlt := h.lt
  have hne : ∀ k, k < w.heap.size → some k ≠ some X := fun k hk e => by have := Option.some.inj e; omega
  refine ⟨⟨hg.os.trans h.g.os, hg.tape.trans h.g.tape, hg.output.trans h.g.output, Nat.le_trans h.g.size hg.size, fun k hk hk' => by rw [hg.block k (Nat.lt_of_lt_of_le hk h.g.size) (hne k hk)]; exact h.g.block k hk hk'⟩, ?_, h.lt⟩
  rw [hg.block R (Go.lt_of_block h.r) (hne R hlt)]; exact h.r
theorem Rd.alloc {w W : World} {R p c : Nat} {s : ByteArray} (h : Rd w R s p c W) (o : Obj) : Rd w R s p c (W.alloc o) := h.below ((Below.refl _ W).alloc (Nat.le_refl _) o)
def nameV (nm : List UInt8 × List UInt8) : Value := .agg #[.string (X.ba nm.1), .string (X.ba nm.2)]
theorem row2 {w : World} {b : Nat} {x y : Value} {t : TypeId} (h : w.heap[b]? = some (.cells #[x, y] t (0, 0))) : w.cell? ⟨b, 0, none⟩ = some x ∧ w.cell? ⟨b, 1, none⟩ = some y := ⟨rowCell h 0, rowCell h 1⟩
set_option maxRecDepth 100000 in
set_option maxHeartbeats 2000000 in
theorem name_any {R p c : Nat} {s : ByteArray} {W : World} (h : Rd W R s p c W) (hp : p ≤ s.size) (hs : s.size ≤ 1000000000000) :
    Calls Tryz.prog 37 #[.pointer (some ⟨R, 0, none⟩)] W (Ends W R s c (X.name (rest s p)) nameV) := by
  obtain ⟨RES, hRES⟩ : ∃ x, X.name (rest s p) = x := ⟨_, rfl⟩
  rw [hRES]
  have HE0 : Hid (RES = (match X.part (rest s p) with
      | .error e => .error e
      | .ok (one, r) => if [58].isPrefixOf r then (match X.part (r.drop 1) with | .error e => .error e | .ok (two, r2) => .ok ((one, two), r2)) else .ok (([], one), r))) := by
    show _ = _
    rw [← hRES]; rfl
  have HF := hid (X.part_fair (rest s p))
  obtain ⟨w1, hw1⟩ : ∃ w1, W.alloc (.cells #[.string ⟨#[]⟩, .string ⟨#[]⟩] 75) = w1 := ⟨_, rfl⟩
  have hX1 : w1.heap[W.heap.size]? = some (.cells #[.string ⟨#[]⟩, .string ⟨#[]⟩] 75 (0, 0)) := by rw [← hw1]; exact heap_alloc_new W _
  have HR1 : Hid (Rd W R s p c w1) := by show Rd _ _ _ _ _ _; rw [← hw1]; exact h.alloc _
  have cP := part_any HR1.out.own hp hs
  have HX1 := hid hX1
  have HW1 := hid hw1
  have HLT := hid h.lt
  clear h hRES hw1 hX1
  go_enter Tryz.func37, Tryz.ntmps37
  go_upto_region 1 with fail
  rw [HW1.out]
  go_wp2_with fail
  refine cP.mono ?_
  rintro e w2 (⟨one, r, hx, rfl, hr⟩ | ⟨n, e, hx, rfl, hr⟩)
  · have hsuf := (HF.out.1 _ _ hx).1
    have hpos := rest_pos hsuf hp
    have hre := rest_suf hsuf
    obtain ⟨q, hq⟩ : ∃ q, s.size - r.length = q := ⟨_, rfl⟩
    rw [hq] at hr hpos hre
    have HE1 : Hid (RES = if [58].isPrefixOf (rest s q) then (match X.part (rest s (q + 1)) with | .error e => .error e | .ok (two, r2) => .ok ((one, two), r2)) else .ok (([], one), rest s q)) := by
      show _ = _
      rw [HE0.out, hx, ← rest_drop, ← hre]
    have HR2 := hid (HR1.out.trans hr)
    have HX2 : Hid (w2.heap[W.heap.size]? = some (.cells #[.string ⟨#[]⟩, .string ⟨#[]⟩] 75 (0, 0))) := by
      show _ = _
      rw [hr.g.block _ (Go.lt_of_block HX1.out) (fun e => by have := Option.some.inj e; have := HLT.out; omega)]; exact HX1.out
    have cT := take_l (k := 1) [58] ⟨#[58]⟩ rfl rfl HR2.out.own hpos.2 hs
    have hq2 := hpos.2
    clear hx hr hsuf hpos hre hq HE0 HF cP HX1
    go_wp2_with fail
    refine cT.mono ?_
    rintro e w3 (⟨g1, g2, rfl, g3⟩ | ⟨g1, rfl, g3⟩)
    · have HR3 := hid (HR2.out.trans g3)
      have cP := part_any HR3.out.own g2 hs
      have HE2 : Hid (RES = (match X.part (rest s (q + 1)) with | .error e => .error e | .ok (two, r2) => .ok ((one, two), r2))) := by
        show _ = _
        rw [HE1.out, if_pos g1]
      have HX3 : Hid (w3.heap[W.heap.size]? = some (.cells #[.string ⟨#[]⟩, .string ⟨#[]⟩] 75 (0, 0))) := by
        show _ = _
        rw [g3.g.block _ (Go.lt_of_block HX2.out) (fun e => by have := Option.some.inj e; have := HLT.out; omega)]; exact HX2.out
      clear g1 g3 cT HE1 HX2
      go_wp2_with fail
      refine cP.mono ?_
      rintro e w4 (⟨two, r, hx, rfl, hr⟩ | ⟨n, e, hx, rfl, hr⟩)
      · have HX4 : Hid (w4.heap[W.heap.size]? = some (.cells #[.string ⟨#[]⟩, .string ⟨#[]⟩] 75 (0, 0))) := by
          show _ = _
          rw [hr.g.block _ (Go.lt_of_block HX3.out) (fun e => by have := Option.some.inj e; have := HLT.out; omega)]; exact HX3.out
        have HE : Hid (RES = .ok ((one, two), r)) := by show _ = _; rw [HE2.out, hx]
        have HR4 := hid (HR3.out.trans hr)
        obtain ⟨x0, x1⟩ := row2 HX4.out
        have f0 := Lib.frozen_of_heap HX4.out 0
        have f1 := Lib.frozen_of_heap HX4.out 1
        clear hx hr HE2 HX3 cP
        go_wp2_with fail
        exact bodyPost_ret (v := nameV (one, two)) (results_cell_row rfl _ _ W.heap.size 75 _ (0, 0) _ rfl (row_set (row_set HX4.out 0 _) 1 _) Tryz.underlying75 rfl infoName) rfl (Or.inl ⟨_, _, HE.out, rfl, (HR4.out.put (Nat.le_refl _) 0 _).put (Nat.le_refl _) 1 _⟩)
      · have HE : Hid (RES = .error (n, e)) := by show _ = _; rw [HE2.out, hx]
        exact ⟨rfl, Or.inr ⟨_, _, HE.out, rfl, HR3.out.g.trans hr⟩⟩
    · have HR3 := hid (HR2.out.below g3)
      have HE : Hid (RES = .ok (([], one), rest s q) ∧ s.size - (rest s q).length = q) := by
        refine ⟨?_, by rw [rest_len]; omega⟩
        rw [HE1.out, if_neg (by rw [g1]; decide)]
      have HX3 : Hid (w3.heap[W.heap.size]? = some (.cells #[.string ⟨#[]⟩, .string ⟨#[]⟩] 75 (0, 0))) := by
        show _ = _
        rw [g3.block _ (Go.lt_of_block HX2.out)]; exact HX2.out
      obtain ⟨x0, x1⟩ := row2 HX3.out
      have f0 := Lib.frozen_of_heap HX3.out 0
      have f1 := Lib.frozen_of_heap HX3.out 1
      clear g1 g3 cT HE1 HX2
      go_wp2_with fail
      exact bodyPost_ret (v := nameV ([], one)) (results_cell_row rfl _ _ W.heap.size 75 _ (0, 0) _ rfl (row_set (row_set HX3.out 0 _) 1 _) Tryz.underlying75 rfl infoName) rfl (Or.inl ⟨_, _, HE.out.1, rfl, by rw [HE.out.2]; exact (HR3.out.put (Nat.le_refl _) 0 _).put (Nat.le_refl _) 1 _⟩)
  · have HE : Hid (RES = .error (n, e)) := by show _ = _; rw [HE0.out, hx]
    exact ⟨rfl, Or.inr ⟨_, _, HE.out, rfl, HR1.out.g.trans hr⟩⟩
end Go.Proofs.YtakplnceiibmlaaGreatDoor
