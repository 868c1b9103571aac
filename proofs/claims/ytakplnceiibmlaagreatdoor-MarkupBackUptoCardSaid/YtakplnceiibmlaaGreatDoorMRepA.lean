/- The replacer: its table built, and its use. -/
import Derived.Test.YtakplnceiibmlaaGreatDoorMRd2
import Derived.Tactics
import Derived.Tactics2
import Derived.Defers
import Derived.Laws.Pointers
import Derived.Laws.LoneSync
import Derived.RegionTactic
import Derived.RegionCalls
import Derived.ChangeAlike
import Derived.Test.YtakplnceiibmlaaGreatDoorMEscA
import Derived.Test.YtakplnceiibmlaaGreatDoorMMem
import Derived.Deep.WholeRow
import Derived.Laws.IdiomStrings
import Derived.Laws.MakeOwn
import Derived.Laws.OwnMore
import Derived.Lib.LazyBuf
import Derived.Test.YtakplnceiibmlaaGreatDoorMPlace
import Derived.Laws.CopyRow
import Derived.Laws.CopyOwn
import Derived.Shelf.Spec.SlicesInsert
import Derived.Deep.RegionLaw
namespace Go.Proofs.YtakplnceiibmlaaGreatDoor
open Go.RowKit
theorem sy_disable (w : World) : (callFunc 111 #[]).run Tryz.prog w = .ok (.value (.tuple #[])) w := run_call_mark0 Tryz.func111 (by kernel_rfl) (by kernel_rfl) (by kernel_rfl) .disable (by kernel_rfl) w
theorem sy_enable (w : World) : (callFunc 113 #[]).run Tryz.prog w = .ok (.value (.tuple #[])) w := run_call_mark0 Tryz.func113 (by kernel_rfl) (by kernel_rfl) (by kernel_rfl) .enable (by kernel_rfl) w
theorem sy_acquire (a : Addr) (w : World) : (callFunc 114 #[.pointer (some a)]).run Tryz.prog w = .ok (.value (.tuple #[])) w := run_call_marked Tryz.func114 (by kernel_rfl) (by kernel_rfl) (by kernel_rfl) .acquire (by kernel_rfl) a w
theorem sy_release (a : Addr) (w : World) : (callFunc 116 #[.pointer (some a)]).run Tryz.prog w = .ok (.value (.tuple #[])) w := run_call_marked Tryz.func116 (by kernel_rfl) (by kernel_rfl) (by kernel_rfl) .releaseMerge (by kernel_rfl) a w
set_option maxRecDepth 100000 in
set_option maxHeartbeats 1600000 in
theorem sy_store (a : Addr) (x : Value) (u : FrameMode) (w : World) (hc : w.cell? a = some x) (hz : w.frozen? a = false) :
    CallsD Tryz.prog 84 #[.pointer (some a), .bool true] u w fun e u' w' => u' = u ∧ (e = .returned (.tuple #[]) ∧ w' = w.drew.setCell a (.int .u32 1)) := by
  have hc' : w.drew.cell? a = some x := by go_simp
  have hz' : w.drew.frozen? a = false := by go_simp
  have hst := run_call_store (P := Tryz.prog) Tryz.func101 (by kernel_rfl) (by kernel_rfl) (by kernel_rfl) (by kernel_rfl) (k := .u32) (y := 1) hc' hz'
  go_enter_d Tryz.func84, Tryz.ntmps84
  go_wp2
  go_region_calls
  all_goals (go_end0; exact ⟨rfl, rfl⟩)
set_option maxRecDepth 100000 in
set_option maxHeartbeats 1600000 in
theorem sy_unlock (a : Addr) (u : FrameMode) (w : World) (hc : w.cell? a = some (.int .i32 1)) (hz : w.frozen? a = false) :
    CallsD Tryz.prog 83 #[.pointer (some a)] u w fun e u' w' => u' = u ∧ (e = .returned (.tuple #[]) ∧ w' = w.setCell a (.int .i32 0)) := by
  have hd := sy_disable
  have he := sy_enable
  have hr := sy_release
  have hadd := run_call_add (P := Tryz.prog) Tryz.func117 (by kernel_rfl) (by kernel_rfl) (by kernel_rfl) .i32 (by kernel_rfl) (y := -1) (s := 0) hc hz (by simp [go_sem]; rfl)
  have hcv := run_convert_to_unsafe (P := Tryz.prog) (src := 184) (dst := 162) Tryz.underlying184 Tryz.underlying162 (by kernel_rfl) hc
  go_enter_d Tryz.func83, Tryz.ntmps83
  go_wp2
  go_end0
  go_wp2
  go_end0
  exact ⟨rfl, rfl⟩
set_option maxRecDepth 100000 in
set_option maxHeartbeats 1600000 in
theorem sy_lock (a : Addr) (w : World) (hc : w.cell? a = some (.int .i32 0)) (hz : w.frozen? a = false) :
    Calls Tryz.prog 82 #[.pointer (some a)] w fun e w' => e = .returned (.tuple #[]) ∧ w' = w.setCell a (.int .i32 1) := by
  have hd := sy_disable
  have he := sy_enable
  have ha := sy_acquire
  have hcas := run_call_cas_hit (P := Tryz.prog) Tryz.func112 (by kernel_rfl) (by kernel_rfl) (by kernel_rfl) .i32 (by kernel_rfl) (y := 1) hc hz
  have hc' : (w.setCell a (.int .i32 1)).cell? a = some (.int .i32 1) := World.cell?_setCell_same w a _ hc
  have hcv := run_convert_to_unsafe (P := Tryz.prog) (src := 184) (dst := 162) Tryz.underlying184 Tryz.underlying162 (by kernel_rfl) hc'
  go_enter Tryz.func82, Tryz.ntmps82
  go_wp2
  first | go_end0 | (simp only [Exit.inBlock, Exit.then]; refine bodyPost_ret (results_none rfl _ _ _) rfl ?_) | refine bodyPost_ret (results_none rfl _ _ _) rfl ?_
  go_wp2
  go_end0
  exact ⟨rfl, rfl⟩
set_option maxRecDepth 100000 in
set_option maxHeartbeats 1600000 in
theorem sy_load (a : Addr) (d : Int) (w : World) (h0 : w.cell? a = some (.int .u32 d)) : Calls Tryz.prog 63 #[.pointer (some a)] w fun e w' => e = .returned (.bool (d != 0)) ∧ w' = w := by
  have hl := run_call_load (P := Tryz.prog) Tryz.func81 (by kernel_rfl) (by kernel_rfl) (by kernel_rfl) .u32 (by kernel_rfl) h0
  go_enter Tryz.func63, Tryz.ntmps63
  go_wp2
  go_ret
  exact ⟨rfl, rfl⟩
end Go.Proofs.YtakplnceiibmlaaGreatDoor
namespace Go.Proofs.YtakplnceiibmlaaGreatDoor
open Go.RowKit
open Go.Lib (hid)
theorem asz (w : World) (o : Obj) : (w.alloc o).heap.size = w.heap.size + 1 := by simp
theorem ssz (w : World) (a : Addr) (v : Value) : (w.setCell a v).heap.size = w.heap.size := by simp
def keysR : List UInt8 := [13, 10, 9, 34, 38, 62, 60]
def strs14 : Array Value := #[.string ⟨#[60]⟩, .string ⟨#[38, 108, 116, 59]⟩, .string ⟨#[62]⟩, .string ⟨#[38, 103, 116, 59]⟩, .string ⟨#[38]⟩, .string ⟨#[38, 97, 109, 112, 59]⟩, .string ⟨#[34]⟩, .string ⟨#[38, 113, 117, 111, 116, 59]⟩, .string ⟨#[9]⟩, .string ⟨#[38, 35, 57, 59]⟩, .string ⟨#[10]⟩, .string ⟨#[38, 35, 49, 48, 59]⟩, .string ⟨#[13]⟩, .string ⟨#[38, 35, 49, 51, 59]⟩]
theorem keysR_get (j : Nat) (hj : j < 7) : ∃ k, keysR[j]? = some k ∧ k ∉ keysR.take j ∧ strs14[12 - 2 * j]? = some (.string (X.ba [k])) ∧ strs14[12 - 2 * j + 1]? = some (.string (X.ba (X.escB k))) := by
  have h : j = 0 ∨ j = 1 ∨ j = 2 ∨ j = 3 ∨ j = 4 ∨ j = 5 ∨ j = 6 := by omega
  rcases h with rfl | rfl | rfl | rfl | rfl | rfl | rfl
  · exact ⟨13, rfl, by decide, rfl, rfl⟩
  · exact ⟨10, rfl, by decide, rfl, rfl⟩
  · exact ⟨9, rfl, by decide, rfl, rfl⟩
  · exact ⟨34, rfl, by decide, rfl, rfl⟩
  · exact ⟨38, rfl, by decide, rfl, rfl⟩
  · exact ⟨62, rfl, by decide, rfl, rfl⟩
  · exact ⟨60, rfl, by decide, rfl, rfl⟩
structure TabAt (B : Nat) (w : World) (T L j : Nat) : Prop where
  own : w.ownsRow B 9 1 (.slice (some ⟨L, 0, none⟩) j 7) j ((keysR.take j).map fun c => .string (X.ba [c]))
  tl : T ≠ L
  bt : B ≤ T
  tab : ∃ A : Array Value, w.heap[T]? = some (.cells A 158 (0, 0)) ∧ A.size = 257 ∧ A[256]? = some (.slice (some ⟨L, 0, none⟩) j 7) ∧
    ∀ c, c < 256 → ∃ v, A[c]? = some v ∧ (UInt8.ofNat c ∉ keysR.take j → v = .slice none 0 0) ∧
      (UInt8.ofNat c ∈ keysR.take j → ∃ g cp, v = .slice (some ⟨g, 0, none⟩) (X.escB (UInt8.ofNat c)).length cp ∧ g < w.heap.size ∧ B ≤ g ∧ g ≠ T ∧ g ≠ L ∧ ∀ i x, (X.escB (UInt8.ofNat c))[i]? = some x → w.cell? ⟨g, i, none⟩ = some (.int .u8 x.toNat))
theorem zero158 : Tryz.zeroCells158 = Array.replicate 256 (.slice none 0 0) ++ #[.slice none 0 0] := by kernel_rfl
theorem zero_set (v : Value) : (Tryz.zeroCells158.toList.set 256 v) = List.replicate 256 (.slice none 0 0) ++ [v] := by
  rw [zero158, Array.toList_append, Array.toList_replicate, List.set_append_right _ _ (by rw [List.length_replicate]; exact Nat.le_refl _), List.length_replicate]
  rfl
theorem zero_size : Tryz.zeroCells158.size = 257 := by rw [zero158, Array.size_append, Array.size_replicate]; rfl
theorem store_zero (w : World) (a : Option Addr) (n c : Nat) :
    (storeCells ⟨w.heap.size, 0, none⟩ (Tryz.zeroCells158.toList.set 256 (.slice a n c)) 0).run Tryz.prog (w.alloc (.cells Tryz.zeroCells158 158)) = .ok () (w.alloc (.cells (Tryz.zeroCells158.toList.set 256 (.slice a n c)).toArray 158)) := by
  have hl : ((Tryz.zeroCells158.toList.set 256 (.slice a n c)).toArray).size = 257 := by rw [zero_set, List.size_toArray, List.length_append, List.length_replicate]; rfl
  have h := run_storeCells_new (P := Tryz.prog) w 158 Tryz.zeroCells158 (Tryz.zeroCells158.toList.set 256 (.slice a n c)).toArray (by rw [hl]; kernel_rfl) (by rw [hl, zero_size]) (by
    rw [zero_set]
    rw [Array.all_eq_true_iff_forall_mem]
    intro x hx
    rw [List.mem_toArray, List.mem_append] at hx
    rcases hx with hx | hx
    · rw [(List.mem_replicate.1 hx).2]; rfl
    · rw [List.mem_singleton.1 hx]; rfl)
  exact h
theorem TabAt.zero (W : World) : TabAt W.heap.size ((W.alloc (.cells (madeCells #[.string ⟨#[]⟩] 7) 9)).alloc (.cells (Tryz.zeroCells158.toList.set 256 (.slice (some ⟨W.heap.size, 0, none⟩) 0 7)).toArray 158)) (W.heap.size + 1) W.heap.size 0 := by
  refine ⟨(World.ownsRow_made W _ 7 (Nat.le_refl _) (by decide) (size_madeCells _ _)).alloc _, by omega, by omega, (Tryz.zeroCells158.toList.set 256 (.slice (some ⟨W.heap.size, 0, none⟩) 0 7)).toArray, ?_, ?_, ?_, ?_⟩
  · have := heap_alloc_new (W.alloc (.cells (madeCells #[.string ⟨#[]⟩] 7) 9)) (.cells (Tryz.zeroCells158.toList.set 256 (.slice (some ⟨W.heap.size, 0, none⟩) 0 7)).toArray 158)
    have e : (W.alloc (.cells (madeCells #[.string ⟨#[]⟩] 7) 9)).heap.size = W.heap.size + 1 := asz _ _
    rw [e] at this
    exact this
  · rw [zero_set, List.size_toArray, List.length_append, List.length_replicate]; rfl
  · rw [zero_set, List.getElem?_toArray, List.getElem?_append_right (by rw [List.length_replicate]; exact Nat.le_refl _), List.length_replicate]
    rfl
  · intro c hc
    refine ⟨.slice none 0 0, ?_, fun _ => rfl, fun h => by cases h⟩
    rw [zero_set, List.getElem?_toArray, List.getElem?_append_left (by rw [List.length_replicate]; exact hc), List.getElem?_replicate, if_pos hc]
theorem TabAt.nil {B : Nat} {w : World} {T L j : Nat} (h : TabAt B w T L j) (k : UInt8) (hk : k ∉ keysR.take j) : w.cell? ⟨T, k.toNat, none⟩ = some (.slice none 0 0) := by
  obtain ⟨A, hA, -, -, hc⟩ := h.tab
  obtain ⟨v, h1, h2, -⟩ := hc k.toNat (UInt8.toNat_lt k)
  rw [UInt8.ofNat_toNat] at h2
  rw [rowCell hA, h1, h2 hk]
theorem TabAt.list {B : Nat} {w : World} {T L j : Nat} (h : TabAt B w T L j) : w.cell? ⟨T, 256, none⟩ = some (.slice (some ⟨L, 0, none⟩) j 7) := by
  obtain ⟨A, hA, -, h1, -⟩ := h.tab
  rw [rowCell hA, h1]
theorem TabAt.free {B : Nat} {w : World} {T L j : Nat} (h : TabAt B w T L j) (i : Nat) : w.frozen? ⟨T, i, none⟩ = false := by
  obtain ⟨A, hA, -, h1, -⟩ := h.tab
  exact rowFree hA i
theorem TabAt.mid {B : Nat} {w w' : World} {T L j : Nat} (h : TabAt B w T L j) (o1 o2 : Obj) (hg : ((w.alloc o1).alloc o2).grownBy w' (some L)) : w'.heap[T]? = w.heap[T]? := by
  obtain ⟨A, hA, -, h1, -⟩ := h.tab
  have hTl : T < w.heap.size := Go.lt_of_block hA
  rw [hg.block T (by rw [asz, asz]; omega) (fun e => h.tl (Option.some.inj e)), heap_alloc_old _ _ (by rw [asz]; omega), heap_alloc_old _ _ hTl]
theorem TabAt.below {B : Nat} {W w w' : World} {T L j : Nat} (h : TabAt B w T L j) (hb : Below B W w) (o1 o2 o3 : Obj) (hg : ((w.alloc o1).alloc o2).grownBy w' (some L)) (v1 v2 : Value) (i k : Nat) :
    Below B W (((w'.setCell ⟨T, i, none⟩ v1).setCell ⟨T, k, none⟩ v2).alloc o3).drew := by
  obtain ⟨hL, hL2⟩ := h.own.lt L rfl
  obtain ⟨A, hA, -, h1, -⟩ := h.tab
  have hTl : T < w.heap.size := Go.lt_of_block hA
  have hb1 : Below B W ((w.alloc o1).alloc o2) := (hb.alloc (by omega) _).alloc (by rw [asz]; omega) _
  have hb2 : Below B W w' := hb1.grown hg (by rw [asz, asz]; omega) (fun k hk => by cases hk; exact hL)
  have hs := hg.size
  rw [asz, asz] at hs
  exact (((hb2.setCell (p := ⟨T, i, none⟩) h.bt _).setCell (p := ⟨T, k, none⟩) h.bt _).alloc (by rw [ssz, ssz]; omega) _).drew
theorem TabAt.step {B : Nat} {w w' w4 : World} {T L j : Nat} (h : TabAt B w T L j) {kc : UInt8} (hkc : keysR[j]? = some kc) (o1 o2 : Obj)
    (hown : w'.ownsRow B 9 1 (.slice (some ⟨L, 0, none⟩) (j + 1) 7) (j + 1) (((keysR.take j).map fun c => .string (X.ba [c])) ++ [.string (X.ba [kc])]))
    (hg : ((w.alloc o1).alloc o2).grownBy w' (some L)) (cp : Nat) (fr : Nat × Nat)
    (h4 : w4 = (((w'.setCell ⟨T, 256, none⟩ (.slice (some ⟨L, 0, none⟩) (j + 1) 7)).setCell ⟨T, kc.toNat, none⟩ (.slice (some ⟨w'.heap.size, 0, none⟩) (X.ba (X.escB kc)).size cp)).alloc (.cells (bytesRow (X.ba (X.escB kc)) cp) 5 fr)).drew) :
    TabAt B w4 T L (j + 1) := by
  have htk : keysR.take (j + 1) = keysR.take j ++ [kc] := by rw [List.take_add_one, hkc]; rfl
  have hT' := h.mid o1 o2 hg
  obtain ⟨A, hA, hs, h256, hc⟩ := h.tab
  rw [hA] at hT'
  have hTl : T < w.heap.size := Go.lt_of_block hA
  have hsz : w.heap.size + 2 ≤ w'.heap.size := by
    have := hg.size
    rw [asz, asz] at this
    omega
  have hold : ∀ k, k < w.heap.size → k ≠ L → w'.heap[k]? = w.heap[k]? := by
    intro k hk hL
    rw [hg.block k (by rw [asz, asz]; omega) (fun e => hL (Option.some.inj e))]
    rw [heap_alloc_old _ _ (by rw [asz]; omega), heap_alloc_old _ _ hk]
  obtain ⟨w2, hw2⟩ : ∃ w2, w'.setCell ⟨T, 256, none⟩ (.slice (some ⟨L, 0, none⟩) (j + 1) 7) = w2 := ⟨_, rfl⟩
  rw [hw2] at h4
  have hs2 : w2.heap.size = w'.heap.size := by rw [← hw2, ssz]
  have hT2 : w2.heap[T]? = some (.cells (A.setIfInBounds 256 (.slice (some ⟨L, 0, none⟩) (j + 1) 7)) 158 (0, 0)) := by rw [← hw2]; exact row_set hT' 256 _
  have ho2 : ∀ k, k ≠ T → w2.heap[k]? = w'.heap[k]? := fun k hk => by rw [← hw2]; exact Below.heap_setCell w' ⟨T, 256, none⟩ _ k hk
  obtain ⟨w3, hw3⟩ : ∃ w3, w2.setCell ⟨T, kc.toNat, none⟩ (.slice (some ⟨w'.heap.size, 0, none⟩) (X.ba (X.escB kc)).size cp) = w3 := ⟨_, rfl⟩
  rw [hw3] at h4
  have hs3 : w3.heap.size = w'.heap.size := by rw [← hw3, ssz, hs2]
  have hT3 : w3.heap[T]? = some (.cells ((A.setIfInBounds 256 (.slice (some ⟨L, 0, none⟩) (j + 1) 7)).setIfInBounds kc.toNat (.slice (some ⟨w'.heap.size, 0, none⟩) (X.ba (X.escB kc)).size cp)) 158 (0, 0)) := by rw [← hw3]; exact row_set hT2 _ _
  have ho3 : ∀ k, k ≠ T → w3.heap[k]? = w'.heap[k]? := fun k hk => by rw [← hw3, Below.heap_setCell w2 ⟨T, kc.toNat, none⟩ _ k hk, ho2 k hk]
  obtain ⟨w5, hw5⟩ : ∃ w5, w3.alloc (.cells (bytesRow (X.ba (X.escB kc)) cp) 5 fr) = w5 := ⟨_, rfl⟩
  rw [hw5] at h4
  have h4h : w4.heap = w5.heap := by rw [h4]; rfl
  have hs4 : w4.heap.size = w'.heap.size + 1 := by rw [h4h, ← hw5, asz, hs3]
  have ho5 : ∀ k, k < w'.heap.size → w4.heap[k]? = w3.heap[k]? := fun k hk => by rw [h4h, ← hw5]; exact heap_alloc_old _ _ (by omega)
  have ho4 : ∀ k, k < w'.heap.size → k ≠ T → w4.heap[k]? = w'.heap[k]? := fun k hk hT => by rw [ho5 k hk, ho3 k hT]
  have hT4 := (ho5 T (by omega)).trans hT3
  have hN4 : w4.heap[w'.heap.size]? = some (.cells (bytesRow (X.ba (X.escB kc)) cp) 5 fr) := by
    have := heap_alloc_new w3 (.cells (bytesRow (X.ba (X.escB kc)) cp) 5 fr)
    rw [hw5, hs3] at this
    rw [h4h]
    exact this
  have hkl := UInt8.toNat_lt kc
  refine ⟨?_, h.tl, h.bt, _, hT4, ?_, ?_, ?_⟩
  · rw [htk, List.map_append]
    refine hown.kept (w' := w4) (row := some T) ⟨?_, ?_, ?_, by omega, fun k hk hne => ho4 k hk (fun e => hne (by rw [e]))⟩ (Or.inr fun e => h.tl (Option.some.inj e).symm)
    · rw [h4, ← hw5, ← hw3, ← hw2]; rfl
    · rw [h4, ← hw5, ← hw3, ← hw2]; rfl
    · rw [h4, ← hw5, ← hw3, ← hw2]; rfl
  · rw [Array.size_setIfInBounds, Array.size_setIfInBounds, hs]
  · rw [Array.getElem?_setIfInBounds_ne (by have := hkl; omega), Array.getElem?_setIfInBounds_self_of_lt (by omega)]
  · intro c hlt
    by_cases e : c = kc.toNat
    · subst e
      refine ⟨_, Array.getElem?_setIfInBounds_self_of_lt (by rw [Array.size_setIfInBounds, hs]; omega), fun hn => absurd (by rw [htk, UInt8.ofNat_toNat]; exact List.mem_append_right _ (List.mem_singleton.2 rfl)) hn, fun _ => ?_⟩
      rw [UInt8.ofNat_toNat]
      refine ⟨w'.heap.size, cp, rfl, by omega, by have := h.bt; omega, by omega, ?_, fun i x hx => ?_⟩
      · have := (hown.lt L rfl).2
        omega
      · have hi : i < (X.escB kc).length := (List.getElem?_eq_some_iff.1 hx).1
        have hx' := (List.getElem?_eq_some_iff.1 hx).2
        rw [cell_of_row _ _ _ _ _ _ hN4, bytesRow_at _ _ _ (by simpa [X.ba] using hi)]
        congr 3
        simp [X.ba, hx']
    · obtain ⟨v, h1, h2, h3⟩ := hc c hlt
      have hne : UInt8.ofNat c ≠ kc := by
        rintro rfl
        apply e
        rw [UInt8.toNat_ofNat']
        omega
      refine ⟨v, by rw [Array.getElem?_setIfInBounds_ne (fun k => e k.symm), Array.getElem?_setIfInBounds_ne (by omega)]; exact h1, fun hn => h2 (fun hm => hn (by rw [htk]; exact List.mem_append_left _ hm)), fun hm => ?_⟩
      rw [htk, List.mem_append, List.mem_singleton] at hm
      obtain ⟨g, cp', hv, hgl, hgB, hgT, hgL, hb⟩ := h3 (hm.resolve_right hne)
      exact ⟨g, cp', hv, by omega, hgB, hgT, hgL, fun i x hx => (World.cell?_of_block (a := ⟨g, i, none⟩) (((ho4 g (by omega) hgT)).trans (hold g hgl hgL))).trans (hb i x hx)⟩
end Go.Proofs.YtakplnceiibmlaaGreatDoor
namespace Go.Proofs.YtakplnceiibmlaaGreatDoor
open Go.RowKit
open Go.Lib (hid)
set_option maxRecDepth 100000 in
set_option maxHeartbeats 4000000 in
theorem build_any (R O oc : Nat) (W : World) (hR : W.cell? ⟨R, 4, none⟩ = some (.slice (some ⟨O, 0, none⟩) 14 oc)) (hO : ∀ j, j < 14 → W.cell? ⟨O, j, none⟩ = strs14[j]?) :
    Calls Tryz.prog 65 #[.pointer (some ⟨R, 0, none⟩)] W fun en W' => (∃ T L, en = .returned (.iface 159 (.pointer (some ⟨T, 0, none⟩))) ∧ TabAt W.heap.size W' T L 7) ∧ Below W.heap.size W W' := by
  have HOO : Hid (∀ j, j < 14 → W.cell? ⟨O, j, none⟩ = strs14[j]?) := hid hO
  have HOl : Hid (O < W.heap.size) := hid (Lib.lt_of_cell (hO 0 (by decide)))
  have o0 : W.cell? ⟨O, 0, none⟩ = some (.string ⟨#[60]⟩) := hO 0 (by decide)
  have o1 : W.cell? ⟨O, 1, none⟩ = some (.string ⟨#[38, 108, 116, 59]⟩) := hO 1 (by decide)
  have o2 : W.cell? ⟨O, 2, none⟩ = some (.string ⟨#[62]⟩) := hO 2 (by decide)
  have o3 : W.cell? ⟨O, 3, none⟩ = some (.string ⟨#[38, 103, 116, 59]⟩) := hO 3 (by decide)
  have o4 : W.cell? ⟨O, 4, none⟩ = some (.string ⟨#[38]⟩) := hO 4 (by decide)
  have o5 : W.cell? ⟨O, 5, none⟩ = some (.string ⟨#[38, 97, 109, 112, 59]⟩) := hO 5 (by decide)
  have o6 : W.cell? ⟨O, 6, none⟩ = some (.string ⟨#[34]⟩) := hO 6 (by decide)
  have o7 : W.cell? ⟨O, 7, none⟩ = some (.string ⟨#[38, 113, 117, 111, 116, 59]⟩) := hO 7 (by decide)
  have o8 : W.cell? ⟨O, 8, none⟩ = some (.string ⟨#[9]⟩) := hO 8 (by decide)
  have o9 : W.cell? ⟨O, 9, none⟩ = some (.string ⟨#[38, 35, 57, 59]⟩) := hO 9 (by decide)
  have o10 : W.cell? ⟨O, 10, none⟩ = some (.string ⟨#[10]⟩) := hO 10 (by decide)
  have o11 : W.cell? ⟨O, 11, none⟩ = some (.string ⟨#[38, 35, 49, 48, 59]⟩) := hO 11 (by decide)
  have o12 : W.cell? ⟨O, 12, none⟩ = some (.string ⟨#[13]⟩) := hO 12 (by decide)
  have o13 : W.cell? ⟨O, 13, none⟩ = some (.string ⟨#[38, 35, 49, 51, 59]⟩) := hO 13 (by decide)
  clear hO
  go_enter Tryz.func65, Tryz.ntmps65
  go_wp2_with fail
  have hmk : ∀ w : World, (Instr.makeSlice 40 (.int .i64 0) (.int .i64 7)).run Tryz.prog w = .ok (.slice (some ⟨w.heap.size, 0, none⟩) 0 7) (w.alloc (.cells (madeCells #[.string ⟨#[]⟩] 7) 9)) :=
    fun w => run_makeSlice (P := Tryz.prog) w _ _ _ _ Tryz.underlying40 rfl rfl .i64 .i64 0 7 (by decide) (by decide) (by decide) (by decide) (by decide)
  have heq : ∀ w : World, (binOp .eql 103 (.slice none 0 0) (.slice none 0 0)).run Tryz.prog w = .ok (.bool true) w := fun w => run_eql_slice_nil w _ 5 none 0 0 Tryz.underlying103
  go_loopw [4, 5] (fun v4 vi wr => ((v4 = .bool true ∧ vi = .int .i64 0) ∨ (v4 = .bool false ∧ (vi = .int .i64 2 ∨ vi = .int .i64 4 ∨ vi = .int .i64 6 ∨ vi = .int .i64 8 ∨ vi = .int .i64 10 ∨ vi = .int .i64 12 ∨ vi = .int .i64 14))) ∧ wr = W) (fun _ vi _ => 20 - (intOf vi).toNat)
  case atStart => exact ⟨Or.inl ⟨rfl, rfl⟩, rfl⟩
  case round =>
    obtain ⟨hr, hw⟩ := hrel
    obtain rfl := hw.symm
    rcases hr with ⟨rfl, rfl⟩ | ⟨rfl, hr⟩
    · go_wp2_with fail
      go_roundw
      case rel => exact ⟨Or.inr ⟨rfl, Or.inl rfl⟩, trivial⟩
      case measure => simp [intOf]
    · rcases hr with rfl | rfl | rfl | rfl | rfl | rfl | rfl
      · go_wp2_with fail
        go_roundw
        case rel => exact ⟨Or.inr ⟨rfl, Or.inr (Or.inl rfl)⟩, trivial⟩
        case measure => simp [intOf]
      · go_wp2_with fail
        go_roundw
        case rel => exact ⟨Or.inr ⟨rfl, Or.inr (Or.inr (Or.inl rfl))⟩, trivial⟩
        case measure => simp [intOf]
      · go_wp2_with fail
        go_roundw
        case rel => exact ⟨Or.inr ⟨rfl, Or.inr (Or.inr (Or.inr (Or.inl rfl)))⟩, trivial⟩
        case measure => simp [intOf]
      · go_wp2_with fail
        go_roundw
        case rel => exact ⟨Or.inr ⟨rfl, Or.inr (Or.inr (Or.inr (Or.inr (Or.inl rfl))))⟩, trivial⟩
        case measure => simp [intOf]
      · go_wp2_with fail
        go_roundw
        case rel => exact ⟨Or.inr ⟨rfl, Or.inr (Or.inr (Or.inr (Or.inr (Or.inr (Or.inl rfl)))))⟩, trivial⟩
        case measure => simp [intOf]
      · go_wp2_with fail
        go_roundw
        case rel => exact ⟨Or.inr ⟨rfl, Or.inr (Or.inr (Or.inr (Or.inr (Or.inr (Or.inr (rfl))))))⟩, trivial⟩
        case measure => simp [intOf]
      · have hst : (storeCells ⟨W.heap.size + 1, 0, none⟩ (Tryz.zeroCells158.toList.set 256 (.slice (some ⟨W.heap.size, 0, none⟩) 0 7))).run Tryz.prog ((W.alloc (.cells (madeCells #[.string ⟨#[]⟩] 7) 9)).alloc (.cells Tryz.zeroCells158 158)) = .ok () ((W.alloc (.cells (madeCells #[.string ⟨#[]⟩] 7) 9)).alloc (.cells (Tryz.zeroCells158.toList.set 256 (.slice (some ⟨W.heap.size, 0, none⟩) 0 7)).toArray 158)) := by
          have := store_zero (W.alloc (.cells (madeCells #[.string ⟨#[]⟩] 7) 9)) (some ⟨W.heap.size, 0, none⟩) 0 7
          rw [asz] at this
          exact this
        obtain ⟨w1, hw1⟩ : ∃ w1, (W.alloc (.cells (madeCells #[.string ⟨#[]⟩] 7) 9)).alloc (.cells (Tryz.zeroCells158.toList.set 256 (.slice (some ⟨W.heap.size, 0, none⟩) 0 7)).toArray 158) = w1 := ⟨_, rfl⟩
        rw [hw1] at hst
        have HT1 : Hid (TabAt W.heap.size w1 (W.heap.size + 1) W.heap.size 0) := hid (by rw [← hw1]; exact TabAt.zero W)
        have HB1 : Hid (Below W.heap.size W w1) := hid (by rw [← hw1]; exact ((Below.refl _ W).alloc (Nat.le_refl _) _).alloc (by rw [asz]; omega) _)
        clear hw1
        go_wp2_with fail
        go_loopw [12, 13, 14] (fun vi v13 v14 wy => ∃ (j : Nat) (z : Int), vi = .int .i64 z ∧ Hid (z = 12 - 2 * (j : Int) ∧ j ≤ 7 ∧ TabAt W.heap.size wy (W.heap.size + 1) W.heap.size j ∧ Below W.heap.size W wy)) (fun vi _ _ _ => (intOf vi + 2).toNat)
        case atStart => exact ⟨0, 12, rfl, hid ⟨rfl, by decide, HT1.out, HB1.out⟩⟩
        case round =>
          obtain ⟨j, z, rfl, HJ⟩ := hrel
          rcases Nat.lt_or_ge j 7 with hj | hj
          · obtain ⟨ii, hii⟩ : ∃ ii : Nat, z = (ii : Int) := ⟨z.toNat, by have := HJ.out.1; omega⟩
            obtain rfl := hii
            obtain ⟨kc, ac, rc, hac, hrc, hkc, hknot, x12, x13⟩ : ∃ (kc : UInt8) (ac rc : ByteArray), ac = X.ba [kc] ∧ rc = X.ba (X.escB kc) ∧ keysR[j]? = some kc ∧ kc ∉ keysR.take j ∧ wr.cell? ⟨O, ii, none⟩ = some (.string ac) ∧ wr.cell? ⟨O, ii + 1, none⟩ = some (.string rc) := by
              obtain ⟨k, h1, h2, h3, h4⟩ := keysR_get j hj
              have e : 12 - 2 * j = ii := by have := HJ.out.1; omega
              rw [e] at h3 h4
              exact ⟨k, _, _, rfl, rfl, h1, h2, (HJ.out.2.2.2.cell (p := ⟨O, ii, none⟩) HOl.out).trans ((HOO.out ii (by omega)).trans h3), (HJ.out.2.2.2.cell (p := ⟨O, ii + 1, none⟩) HOl.out).trans ((HOO.out (ii + 1) (by omega)).trans h4)⟩
            obtain ⟨kn, hkn⟩ : ∃ kn, kc.toNat = kn := ⟨_, rfl⟩
            have hkl : kn < 256 := by rw [← hkn]; exact UInt8.toNat_lt _
            have hacs : 0 < ac.size := by rw [hac]; exact Nat.succ_pos 0
            have hac0 : (ac[0]'hacs).toNat = kn := by subst hac; exact hkn
            have t13 : wr.cell? ⟨W.heap.size + 1, kn, none⟩ = some (.slice none 0 0) := by rw [← hkn]; exact HJ.out.2.2.1.nil kc hknot
            have t256 : wr.cell? ⟨W.heap.size + 1, 256, none⟩ = some (.slice (some ⟨W.heap.size, 0, none⟩) j 7) := HJ.out.2.2.1.list
            have hi14 : ii < 14 := by have := HJ.out.1; omega
            have hi15 : ii + 1 < 14 := by have := HJ.out.1; omega
            have P0 : (0 : Int) ≤ (ii : Int) := by omega
            have P1 : (ii : Int) < 14 := by omega
            have P2 : (0 : Int) ≤ (ii : Int) + 1 := by omega
            have P3 : (ii : Int) + 1 < 14 := by omega
            have g0 : decide ((0 : Int) ≤ (ii : Int)) = true := decide_eq_true P0
            have HAC : Hid (ac = X.ba [kc] ∧ rc = X.ba (X.escB kc) ∧ keysR[j]? = some kc ∧ kc.toNat = kn) := hid ⟨hac, hrc, hkc, hkn⟩
            clear hac hrc hkc hkn
            have hcv : (convert 103 9 (.slice (some ⟨wr.heap.size, 0, none⟩) 1 1)).run Tryz.prog (wr.alloc (.cells #[.int .u8 kn] 5)) = .ok (.string ac) (wr.alloc (.cells #[.int .u8 kn] 5)) := by
              have := run_convert_bytes_back (P := Tryz.prog) (wr.alloc (.cells #[.int .u8 kn] 5)) 103 9 5 ⟨wr.heap.size, 0, none⟩ 1 [kc] Tryz.underlying103 Tryz.underlying5 Tryz.underlying9 (fun i hi => by
                have : i = 0 := by simp at hi; omega
                subst this
                show World.cell? _ ⟨wr.heap.size, 0, none⟩ = _
                rw [rowCell (heap_alloc_new wr _)]
                show some (Value.int .u8 (kn : Int)) = some (.int .u8 (kc.toNat : Int))
                rw [HAC.out.2.2.2])
              rw [HAC.out.1]
              exact this
            have hown2 := (HJ.out.2.2.1.own.alloc (.cells #[.int .u8 kn] 5)).alloc (.cells #[.string ac] 9)
            have hce2 : ∀ i u, ([.string ac] : List Value)[i]? = some u → ((wr.alloc (.cells #[.int .u8 kn] 5)).alloc (.cells #[.string ac] 9)).cell? ((⟨wr.heap.size + 1, 0, none⟩ : Addr).add i) = some u := fun i u hu => by
              have : i = 0 := by
                rcases i with _ | i
                · rfl
                · cases hu
              subst this
              show World.cell? _ ⟨wr.heap.size + 1, 0, none⟩ = _
              have hh := heap_alloc_new (wr.alloc (.cells #[.int .u8 kn] 5)) (.cells #[.string ac] 9)
              rw [asz] at hh
              rw [rowCell hh]
              exact hu
            have HO2 : Hid _ := hid hown2
            have HC2 : Hid _ := hid hce2
            clear hown2 hce2
            go_wp2_with (
              at_builtin
              refine wpList_append_fits _ rfl _ _ 40 rfl W.heap.size 9 _ 1 Tryz.underlying40 rfl rfl W.heap.size j 7 _ rfl HO2.out ⟨wr.heap.size + 1, 0, none⟩ 1 1 [.string ac] rfl rfl HC2.out (by intro u hu; rw [List.mem_singleton.1 hu]; rfl) (by omega) ?_
              intro w' hown hgr
              have hm := HJ.out.2.2.1.mid _ _ hgr
              have hg1 : Hid _ := hid hown
              have hg2 : Hid _ := hid hgr
              have c5 := (World.cell?_of_block (a := ⟨W.heap.size + 1, 256, none⟩) hm).trans t256
              have c7 := (World.cell?_of_block (a := ⟨W.heap.size + 1, kn, none⟩) hm).trans t13
              have f5 := (World.frozen?_of_block (a := ⟨W.heap.size + 1, 256, none⟩) hm).trans (HJ.out.2.2.1.free 256)
              have f7 := (World.frozen?_of_block (a := ⟨W.heap.size + 1, kn, none⟩) hm).trans (HJ.out.2.2.1.free kn)
              have hTw : W.heap.size + 1 < w'.heap.size := Lib.lt_of_cell c5
              obtain ⟨cp, hcp⟩ : ∃ cp, grownCap (w'.setCell ⟨W.heap.size + 1, 256, none⟩ (.slice (some ⟨W.heap.size, 0, none⟩) (j + 1) 7)) rc.size 0 5 = cp := ⟨_, rfl⟩
              have hcb := run_bytes_of_string (P := Tryz.prog) (w'.setCell ⟨W.heap.size + 1, 256, none⟩ (.slice (some ⟨W.heap.size, 0, none⟩) (j + 1) 7)) 9 103 5 rc Tryz.underlying9 Tryz.underlying103 Tryz.underlying5
              rw [hcp, ssz] at hcb
              clear hown hgr hm hcp)
            obtain ⟨e1, e2, e3, e4⟩ := HAC.out
            subst e1 e2 e4
            refine ⟨⟨j + 1, _, rfl, hid ⟨by have := HJ.out.1; omega, by omega, HJ.out.2.2.1.step e3 _ _ hg1.out hg2.out cp _ rfl, HJ.out.2.2.1.below HJ.out.2.2.2 _ _ _ hg2.out _ _ _ _⟩⟩, ?_⟩
            simp only [intOf]
            omega
          · have hj7 : j = 7 := by have := HJ.out.2.1; omega
            subst hj7
            have hz : z = -2 := by have := HJ.out.1; omega
            subst hz
            have HT := HJ.out.2.2.1
            have HB := HJ.out.2.2.2
            have HX : Hid _ := hid (And.intro HT HB)
            clear HT HB
            go_wp2_with fail
            go_ret
            exact ⟨⟨_, _, rfl, HX.out.1⟩, HX.out.2⟩
end Go.Proofs.YtakplnceiibmlaaGreatDoor
namespace Go.Proofs.YtakplnceiibmlaaGreatDoor
open Go.RowKit
open Go.Lib (hid)
namespace X
theorem escB_pos (c : UInt8) : 0 < (escB c).length := by
  unfold escB
  repeat' split
  all_goals (simp only [List.length_cons, List.length_nil]; omega)
def sumK (l ks : List UInt8) : Nat := (ks.map fun k => l.count k * ((escB k).length - 1)).sum
theorem sumK_app (l a : List UInt8) (k : UInt8) : sumK l (a ++ [k]) = sumK l a + l.count k * ((escB k).length - 1) := by
  unfold sumK
  rw [List.map_append, List.sum_append]
  simp
theorem sumK_all (l : List UInt8) : sumK l keysR = l.count 13 * 4 + (l.count 10 * 4 + (l.count 9 * 3 + (l.count 34 * 5 + (l.count 38 * 4 + (l.count 62 * 3 + (l.count 60 * 3 + 0)))))) := rfl
theorem isKey_iff (c : UInt8) : c ∈ keysR ↔ c = 13 ∨ c = 10 ∨ c = 9 ∨ c = 34 ∨ c = 38 ∨ c = 62 ∨ c = 60 := by
  simp [keysR]
theorem escB_nokey (c : UInt8) (h : c ∉ keysR) : escB c = [c] := by
  rw [isKey_iff] at h
  refine escB_self c ⟨?_, ?_, ?_, ?_, ?_, ?_, ?_⟩ <;> (intro e; apply h; simp [e])
theorem escL_size (l : List UInt8) : (escL l).length = l.length + sumK l keysR := by
  induction l with
  | nil => rfl
  | cons a r ih =>
    show (escB a ++ escL r).length = _
    rw [List.length_append, ih, sumK_all, sumK_all]
    simp only [List.count_cons, List.length_cons]
    by_cases h : a ∈ keysR
    · rw [isKey_iff] at h
      rcases h with rfl | rfl | rfl | rfl | rfl | rfl | rfl
      all_goals (simp [escB]; omega)
    · have e : (escB a).length = 1 := by rw [escB_nokey a h]; rfl
      rw [isKey_iff] at h
      simp only [not_or] at h
      simp only [h.1, h.2.1, h.2.2.1, h.2.2.2.1, h.2.2.2.2.1, h.2.2.2.2.2.1, h.2.2.2.2.2.2, beq_iff_eq, if_false]
      omega
theorem sumK_le (l : List UInt8) (i : Nat) : sumK l (keysR.take i) ≤ 5 * l.length := by
  have h1 := escL_size l
  have h2 := escL_len l
  have h3 : sumK l keysR = sumK l (keysR.take i) + sumK l (keysR.drop i) := by
    unfold sumK
    rw [← List.sum_append, ← List.map_append, List.take_append_drop]
  omega
def anyK (l : List UInt8) : Bool := l.any fun c => decide (c ∈ keysR)
theorem anyK_app (l : List UInt8) (c : UInt8) : anyK (l ++ [c]) = (anyK l || decide (c ∈ keysR)) := by
  unfold anyK; rw [List.any_append]; simp
theorem escL_nokey (l : List UInt8) (h : anyK l = false) : escL l = l := by
  induction l with
  | nil => rfl
  | cons a r ih =>
    unfold anyK at h ih
    rw [List.any_cons, Bool.or_eq_false_iff] at h
    show escB a ++ escL r = _
    rw [escB_nokey a (of_decide_eq_false h.1), ih h.2]
    rfl
def anyC (l ks : List UInt8) : Bool := ks.any fun k => decide (l.count k ≠ 0)
theorem anyC_app (l a : List UInt8) (k : UInt8) : anyC l (a ++ [k]) = (anyC l a || decide (l.count k ≠ 0)) := by
  unfold anyC; rw [List.any_append]; simp
theorem anyC_all (l : List UInt8) : anyC l keysR = anyK l := by
  rw [Bool.eq_iff_iff]
  unfold anyC anyK
  rw [List.any_eq_true, List.any_eq_true]
  constructor
  · rintro ⟨k, hk, h⟩
    have h' := of_decide_eq_true h
    exact ⟨k, List.count_pos_iff.1 (by omega), decide_eq_true hk⟩
  · rintro ⟨c, hc, h⟩
    refine ⟨c, of_decide_eq_true h, decide_eq_true ?_⟩
    have := List.count_pos_iff.2 hc
    omega
end X
theorem TabAt.strs {B : Nat} {w : World} {T L j : Nat} (h : TabAt B w T L j) (i : Nat) (k : UInt8) (hk : (keysR.take j)[i]? = some k) : w.cell? ⟨L, i, none⟩ = some (.string (X.ba [k])) := by
  have := h.own.cells (g := L) rfl i (.string (X.ba [k])) (by rw [List.getElem?_map, hk]; rfl)
  have hadd : (⟨L, 0, none⟩ : Addr).add i = ⟨L, i, none⟩ := by unfold Addr.add; split <;> simp_all
  rwa [hadd] at this
theorem TabAt.val {B : Nat} {w : World} {T L : Nat} (h : TabAt B w T L 7) (c : UInt8) : (c ∉ keysR ∧ w.cell? ⟨T, c.toNat, none⟩ = some (.slice none 0 0)) ∨
    (c ∈ keysR ∧ ∃ g cp, w.cell? ⟨T, c.toNat, none⟩ = some (.slice (some ⟨g, 0, none⟩) (X.escB c).length cp) ∧ g < w.heap.size ∧ g ≠ T ∧ ∀ i x, (X.escB c)[i]? = some x → w.cell? ⟨g, i, none⟩ = some (.int .u8 x.toNat)) := by
  obtain ⟨A, hA, -, -, hc⟩ := h.tab
  obtain ⟨v, h1, h2, h3⟩ := hc c.toNat (UInt8.toNat_lt c)
  rw [UInt8.ofNat_toNat] at h2 h3
  by_cases hk : c ∈ keysR
  · obtain ⟨g, cp, rfl, hg, -, hgT, -, hb⟩ := h3 hk
    exact Or.inr ⟨hk, g, cp, by rw [rowCell hA, h1], hg, hgT, hb⟩
  · exact Or.inl ⟨hk, by rw [rowCell hA, h1, h2 hk]⟩
theorem TabAt.keep {B : Nat} {w w' : World} {T L j : Nat} (h : TabAt B w T L j) (hb : Below w.heap.size w w') : TabAt B w' T L j := by
  obtain ⟨A, hA, hs, h1, hc⟩ := h.tab
  have hTl : T < w.heap.size := Go.lt_of_block hA
  have hsz := hb.size
  refine ⟨h.own.kept (row := none) ⟨hb.os, hb.tape, hb.output, hb.size, fun k hk _ => hb.block k hk⟩ (Or.inr (by simp [Value.ownBlock])), h.tl, h.bt, A, (hb.block T hTl).trans hA, hs, h1, fun c hlt => ?_⟩
  obtain ⟨v, h1, h2, h3⟩ := hc c hlt
  refine ⟨v, h1, h2, fun hm => ?_⟩
  obtain ⟨g, cp, hv, hg, e0, e1, e2, hx⟩ := h3 hm
  exact ⟨g, cp, hv, by omega, e0, e1, e2, fun i x hi => (hb.cell (p := ⟨g, i, none⟩) hg).trans (hx i x hi)⟩
theorem TabAt.far {B : Nat} {w w' : World} {T L j R : Nat} (h : TabAt B w T L j) (hb : w.grownBy w' (some R)) (hR : R < B) : TabAt B w' T L j := by
  obtain ⟨A, hA, hs, h1, hc⟩ := h.tab
  have hTl : T < w.heap.size := Go.lt_of_block hA
  have hsz := hb.size
  have hBT := h.bt
  obtain ⟨hL1, hL2⟩ := h.own.lt L rfl
  refine ⟨h.own.kept hb (Or.inr (fun e => by have : L = R := Option.some.inj e; omega)), h.tl, h.bt, A, (hb.block T hTl (fun e => by have := Option.some.inj e; omega)).trans hA, hs, h1, fun c hlt => ?_⟩
  obtain ⟨v, h1, h2, h3⟩ := hc c hlt
  refine ⟨v, h1, h2, fun hm => ?_⟩
  obtain ⟨g, cp, hv, hg, e0, e1, e2, hx⟩ := h3 hm
  exact ⟨g, cp, hv, by omega, e0, e1, e2, fun i x hi => (World.cell?_of_block (a := ⟨g, i, none⟩) (hb.block g hg (fun e => by have := Option.some.inj e; omega))).trans (hx i x hi)⟩
end Go.Proofs.YtakplnceiibmlaaGreatDoor
namespace Go.Proofs.YtakplnceiibmlaaGreatDoor
open Go.RowKit
open Go.Lib (hid)
structure BufAt (W w : World) (Bk n m : Nat) (l : List UInt8) : Prop where
  below : Below W.heap.size W w
  row : ∃ cur : Array Value, w.heap[Bk]? = some (.cells cur 5 (0, 0)) ∧ cur.size = n ∧ cur.toList.take m = l.map fun c => .int .u8 c.toNat
set_option maxRecDepth 100000 in
set_option maxHeartbeats 8000000 in
theorem repl_any (B T L : Nat) (s : ByteArray) (hs : s.size ≤ 1000000000) (W : World) (hT : TabAt B W T L 7) :
    Calls Tryz.prog 181 #[.pointer (some ⟨T, 0, none⟩), .string s] W fun en W' => en = .returned (.string (X.ba (X.escL s.data.toList))) ∧ Below W.heap.size W W' := by
  obtain ⟨l, hl⟩ : ∃ l, s.data.toList = l := ⟨_, rfl⟩
  rw [hl]
  have hsz : s.size = l.length := by rw [← hl]; exact Lib.size_eq s
  have HL : Hid (s.data.toList = l ∧ s.size = l.length) := hid ⟨hl, hsz⟩
  have HT : Hid (TabAt B W T L 7) := hid hT
  have t256 : W.cell? ⟨T, 256, none⟩ = some (.slice (some ⟨L, 0, none⟩) 7 7) := hT.list
  have hnn : ∀ (w : World) (a : Addr) (m c : Nat), (binOp .neq 103 (.slice (some a) m c) (.slice none 0 0)).run Tryz.prog w = .ok (.bool true) w := fun w a m c => run_neq_slice_nil w _ 5 (some a) m c Tryz.underlying103
  have hn0 : ∀ (w : World), (binOp .neq 103 (.slice none 0 0) (.slice none 0 0)).run Tryz.prog w = .ok (.bool false) w := fun w => run_neq_slice_nil w _ 5 none 0 0 Tryz.underlying103
  have hbyte : ∀ i (hi : i < s.size), ∃ c, l[i]? = some c ∧ s[i]'hi = c := fun i hi => ⟨s[i]'hi, by rw [← hl]; exact List.getElem?_eq_getElem (by rw [← Lib.size_eq]; exact hi), rfl⟩
  have HBY := hid hbyte
  clear hbyte
  rcases Nat.lt_or_ge s.size 56 with h56 | h56
  · have g0 : decide ((56 : Int) ≤ (s.size : Int)) = false := decide_eq_false (by omega)
    have g1 : decide (56 ≤ s.size) = false := decide_eq_false (by omega)
    clear hl hsz hT
    go_enter Tryz.func181, Tryz.ntmps181
    go_wp2_with fail
    go_loopw [5, 6, 10, 11] (fun v5 v6 v10 _ wr => ∃ (i nsz : Nat) (b : Bool), v5 = .int .i64 nsz ∧ v6 = .bool b ∧ v10 = .int .i64 i ∧ Hid (i ≤ s.size ∧ nsz = (X.escL (l.take i)).length + (s.size - i) ∧ b = X.anyK (l.take i)) ∧ wr = W) (fun _ _ vi _ _ => s.size - (intOf vi).toNat)
    case atStart => exact ⟨0, s.size, false, rfl, rfl, rfl, hid ⟨Nat.zero_le _, by rw [List.take_zero]; show _ = 0 + _; omega, rfl⟩, rfl⟩
    case round =>
      obtain ⟨i, nsz, b, rfl, rfl, rfl, HI, hw⟩ := hrel
      obtain rfl := hw.symm
      rcases Nat.lt_or_ge i s.size with hlt | hge
      · have g2 : decide ((i : Int) < (s.size : Int)) = true := decide_eq_true (by omega)
        have g3 : decide (i < s.size) = true := decide_eq_true hlt
        obtain ⟨c, hc1, hc2⟩ := HBY.out i hlt
        obtain ⟨cn, hcn⟩ : ∃ cn, c.toNat = cn := ⟨_, rfl⟩
        have hcl : cn < 256 := by rw [← hcn]; exact UInt8.toNat_lt _
        have hsc : (s[i]'hlt).toNat = cn := by rw [hc2, hcn]
        have htk : l.take (i + 1) = l.take i ++ [c] := by rw [List.take_add_one, hc1]; rfl
        have hv := HT.out.val c
        rw [hcn] at hv
        have HX : Hid ((X.escL (l.take (i + 1))).length = (X.escL (l.take i)).length + (X.escB c).length ∧ X.anyK (l.take (i + 1)) = (X.anyK (l.take i) || decide (c ∈ keysR))) := hid ⟨by rw [htk, X.escL_app, List.length_append, show X.escL [c] = X.escB c from List.append_nil _], by rw [htk, X.anyK_app]⟩
        have hpos := X.escB_pos c
        have hle5 := X.escB_len c
        have hnb : nsz ≤ 7000000000 := by
          have h1 := HI.out.2.1
          have h2 := X.escL_len (l.take i)
          have h3 : (l.take i).length ≤ l.length := List.length_take_le' i _
          have h4 := HL.out.2
          omega
        rcases hv with ⟨hk, tc⟩ | ⟨hk, g, cp, tc, -, -, -⟩
        · have HY : Hid ((X.escB c).length = 1 ∧ c ∉ keysR) := hid ⟨by rw [X.escB_nokey c hk]; rfl, hk⟩
          clear hc1 hc2 hcn htk hk hpos hle5
          go_wp2_with fail
          refine ⟨⟨i + 1, nsz, b, rfl, rfl, by congr 1, hid ⟨hlt, ?_, ?_⟩, trivial⟩, ?_⟩
          · rw [HX.out.1, HY.out.1]; have := HI.out.2.1; omega
          · rw [HX.out.2, ← HI.out.2.2, decide_eq_false HY.out.2, Bool.or_false]
          · simp only [intOf]; omega
        · obtain ⟨m, hm⟩ : ∃ m, (X.escB c).length = m := ⟨_, rfl⟩
          rw [hm] at tc hpos hle5
          have HY : Hid ((X.escB c).length = m ∧ c ∈ keysR) := hid ⟨hm, hk⟩
          clear hc1 hc2 hcn htk hk hm
          go_wp2_with fail
          refine ⟨⟨i + 1, nsz + (m - 1), true, by congr 1; omega, rfl, by congr 1, hid ⟨hlt, ?_, ?_⟩, trivial⟩, ?_⟩
          · rw [HX.out.1, HY.out.1]; have := HI.out.2.1; omega
          · rw [HX.out.2, decide_eq_true HY.out.2, Bool.or_true]
          · simp only [intOf]; omega
      · have g2 : decide ((i : Int) < (s.size : Int)) = false := decide_eq_false (by omega)
        have g3 : decide (i < s.size) = false := decide_eq_false (by omega)
        have HN : Hid (nsz = (X.escL l).length ∧ b = X.anyK l) := hid (by
          have h1 := HI.out.2.1
          have h2 := HI.out.2.2
          rw [List.take_of_length_le (by rw [← HL.out.2]; exact hge)] at h1 h2
          exact ⟨by omega, h2⟩)
        have HWV : Hid (Below W.heap.size W W) := hid (Below.refl _ W)
        have HTV := HT
        cases b
        · have HE : Hid (s = X.ba (X.escL l)) := hid (by rw [X.escL_nokey l HN.out.2.symm, ← HL.out.1]; exact (ba_self s).symm)
          go_wp2_with fail
          go_ret
          exact ⟨by rw [← HE.out]; rfl, HWV.out⟩
        · have hnz : nsz ≤ 6000000000 := by
            have h1 := HN.out.1
            have h2 := X.escL_len l
            have h3 := HL.out.2
            omega
          obtain ⟨i0, hi0, hz0, hs0, hb0⟩ : ∃ i0, Tryz.prog.info? 5 = some i0 ∧ i0.zero = some (.int .u8 0) ∧ i0.size = 1 ∧ i0.bytes = 1 := ⟨_, rfl, rfl, rfl, rfl⟩
          have hmk : (Instr.makeSlice 103 (.int .i64 nsz) (.int .i64 nsz)).run Tryz.prog W = .ok (.slice (some ⟨W.heap.size, 0, none⟩) nsz nsz) (W.alloc (.cells (madeCells #[.int .u8 0] nsz) 5)) := by
            have := run_make (P := Tryz.prog) W _ _ i0 _ Tryz.underlying103 hi0 hz0 .i64 .i64 nsz nsz (by omega) (Int.le_refl _) (by rw [hb0]; omega) (by omega)
            rw [hs0, Int.toNat_natCast, Nat.mul_one] at this
            exact this
          obtain ⟨w1, hw1⟩ : ∃ w1, W.alloc (.cells (madeCells #[.int .u8 0] nsz) 5) = w1 := ⟨_, rfl⟩
          have HB1 : Hid (BufAt W w1 W.heap.size nsz 0 []) := hid ⟨by rw [← hw1]; exact (Below.refl _ W).alloc (Nat.le_refl _) _, _, by rw [← hw1]; exact heap_alloc_new W _, size_madeCells _ _, rfl⟩
          rw [hw1] at hmk
          clear hw1
          have hsz0 : (Tryz.prog.info? 5).map (·.size) = some 1 := by rw [hi0]; simp [hs0]
          have HINF := hid hsz0
          clear hi0 hz0 hs0 hb0 hsz0
          go_wp2_with fail
          go_loopw [13, 14, 15] (fun v13 v14 _ wr => ∃ (i j : Nat), v13 = .int .i64 j ∧ v14 = .int .i64 i ∧ Hid (i ≤ s.size ∧ j = (X.escL (l.take i)).length ∧ BufAt W wr W.heap.size nsz j (X.escL (l.take i)))) (fun _ vi _ _ => s.size - (intOf vi).toNat)
          case atStart => exact ⟨0, 0, rfl, rfl, hid ⟨Nat.zero_le _, rfl, HB1.out⟩⟩
          case round =>
            obtain ⟨i, j, rfl, rfl, HI⟩ := hrel
            rcases Nat.lt_or_ge i s.size with hlt | hge
            · have g2 : decide ((i : Int) < (s.size : Int)) = true := decide_eq_true (by omega)
              have g3 : decide (i < s.size) = true := decide_eq_true hlt
              obtain ⟨c, hc1, hc2⟩ := HBY.out i hlt
              obtain ⟨cn, hcn⟩ : ∃ cn, c.toNat = cn := ⟨_, rfl⟩
              have hcl : cn < 256 := by rw [← hcn]; exact UInt8.toNat_lt _
              have hsc : (s[i]'hlt).toNat = cn := by rw [hc2, hcn]
              have htk : l.take (i + 1) = l.take i ++ [c] := by rw [List.take_add_one, hc1]; rfl
              have hv := (HTV.out.keep HI.out.2.2.below).val c
              rw [hcn] at hv
              have HX : Hid (X.escL (l.take (i + 1)) = X.escL (l.take i) ++ X.escB c) := hid (by rw [htk, X.escL_app, show X.escL [c] = X.escB c from List.append_nil _])
              have hroom : j + (X.escB c).length ≤ nsz := by
                have h1 := HN.out.1
                have e : l = l.take (i + 1) ++ l.drop (i + 1) := (List.take_append_drop _ _).symm
                rw [e, X.escL_app, List.length_append, HX.out, List.length_append] at h1
                have := HI.out.2.1
                omega
              have hpos := X.escB_pos c
              have HC : Hid (c.toNat = cn) := hid hcn
              obtain ⟨cur, hcur, hcs, hct⟩ := HI.out.2.2.row
              have hjn : j < nsz := by omega
              have P0 : (0 : Int) ≤ (j : Int) := by omega
              have P1 : (j : Int) < (nsz : Int) := by omega
              have P2 : (j : Int) ≤ (nsz : Int) := by omega
              obtain ⟨v0, hv0⟩ : ∃ v0, wr.cell? ⟨W.heap.size, j, none⟩ = some v0 := ⟨cur[j]'(by omega), by rw [rowCell hcur]; exact Array.getElem?_eq_getElem (by omega)⟩
              have hf0 : wr.frozen? ⟨W.heap.size, j, none⟩ = false := rowFree hcur j
              have HCUR : Hid (wr.heap[W.heap.size]? = some (.cells cur 5 (0, 0)) ∧ cur.size = nsz ∧ cur.toList.take j = (X.escL (l.take i)).map fun c => .int .u8 c.toNat) := hid ⟨hcur, hcs, hct⟩
              clear hcur hcs hct
              rcases hv with ⟨hk, tc⟩ | ⟨hk, g, cp, tc, hg, hgT, hgc⟩
              · have HY : Hid (X.escB c = [c]) := hid (X.escB_nokey c hk)
                clear hc1 hc2 hcn htk hk hpos hroom
                go_wp2_with fail
                refine ⟨⟨i + 1, j + 1, by congr 1, by congr 1, hid ⟨hlt, ?_, ?_⟩⟩, ?_⟩
                · rw [HX.out, HY.out, List.length_append]; have := HI.out.2.1; simp only [List.length_cons, List.length_nil]; omega
                · obtain ⟨h1, h2, h3⟩ := HCUR.out
                  refine ⟨HI.out.2.2.below.setCell (p := ⟨W.heap.size, j, none⟩) (Nat.le_refl _) _, _, row_set h1 j _, by rw [Array.size_setIfInBounds, h2], ?_⟩
                  rw [HX.out, HY.out, List.map_append, ← h3, Array.toList_setIfInBounds, List.take_add_one, List.take_set_of_le (Nat.le_refl j), List.getElem?_set_self (by rw [Array.length_toList]; omega)]
                  show _ = _ ++ [Value.int .u8 c.toNat]
                  rw [HC.out]
                  rfl
                · simp only [intOf]; omega
              · obtain ⟨m, hm⟩ : ∃ m, (X.escB c).length = m := ⟨_, rfl⟩
                rw [hm] at tc hpos hroom
                have HG : Hid (g < wr.heap.size ∧ ∀ i x, (X.escB c)[i]? = some x → wr.cell? ⟨g, i, none⟩ = some (.int .u8 x.toNat)) := hid ⟨hg, hgc⟩
                have HY : Hid ((X.escB c).length = m) := hid hm
                clear hc1 hc2 hcn htk hk hm hgc hgT hg
                obtain ⟨h1, h2, h3⟩ := HCUR.out
                have HCP : Hid (∀ w : World, w.heap = wr.heap → (Builtin.copy_ #[103, 103] 3 #[.slice (some ⟨W.heap.size, j, none⟩) (nsz - j) (nsz - j), .slice (some ⟨g, 0, none⟩) m cp]).run Tryz.prog w = .ok (goInt m) (w.setRow W.heap.size (cur.toList.take j ++ ((X.escB c).map fun c => Value.int .u8 c.toNat) ++ cur.toList.drop (j + m)).toArray)) := hid (fun w hw => by
                  have hl2 : ((X.escB c).map fun c => Value.int .u8 c.toNat).length = m := by rw [List.length_map]; exact HY.out
                  have := run_copy_row (P := Tryz.prog) w 103 103 3 5 W.heap.size j (nsz - j) (nsz - j) ⟨g, 0, none⟩ m cp cur 5 ((X.escB c).map fun c => Value.int .u8 c.toNat) Tryz.underlying103 HINF.out (by rw [hw]; exact h1) (by rw [hl2]; show m = min m (nsz - j); omega) (fun i v hv => by
                    rw [List.getElem?_map] at hv
                    cases hx : (X.escB c)[i]? with
                    | none => rw [hx] at hv; cases hv
                    | some x =>
                      rw [hx] at hv
                      have := HG.out.2 i x hx
                      have hadd : (⟨g, 0, none⟩ : Addr).add i = ⟨g, i, none⟩ := by unfold Addr.add; split <;> simp_all
                      rw [hadd, World.cell?_of_block (a := ⟨g, i, none⟩) (w := wr) (by rw [hw]), this]
                      exact hv) (by rw [hl2]; omega) (by
                    intro v hv
                    obtain ⟨x, -, rfl⟩ := List.mem_map.1 hv
                    rfl)
                  rw [hl2] at this
                  exact this)
                clear h1 h2 h3
                have hjne : ¬ nsz = j := by omega
                have P4 : (cn : Int) < 256 := by omega
                go_wp2_with fail
                go_region_law (refine step_copy_runI rfl (.tmp 105) (.tmp 111) 103 103 rfl _ _ rfl rfl (HCP.out _ rfl) ?_)
                go_wp2_with fail
                refine ⟨⟨i + 1, j + m, by congr 1, by congr 1, hid ⟨hlt, ?_, ?_⟩⟩, by simp only [intOf]; omega⟩
                · rw [HX.out, List.length_append, HY.out]; have := HI.out.2.1; omega
                · obtain ⟨h1, h2, h3⟩ := HCUR.out
                  have hl2 : ((X.escB c).map fun c => Value.int .u8 c.toNat).length = m := by rw [List.length_map]; exact HY.out
                  have hl3 : (cur.toList.take j).length = j := by rw [List.length_take, Array.length_toList, h2]; omega
                  refine ⟨below_setRow HI.out.2.2.below.drew (Nat.le_refl _) _, _, setRow_heap wr.drew W.heap.size cur _ 5 (0, 0) h1, ?_, ?_⟩
                  · rw [List.size_toArray, List.length_append, List.length_append, hl3, hl2, List.length_drop, Array.length_toList, h2]; omega
                  · rw [List.toList_toArray, ← List.append_assoc, List.take_left' (by rw [List.length_append, hl3, hl2]), HX.out, List.map_append, h3]
            · have g2 : decide ((i : Int) < (s.size : Int)) = false := decide_eq_false (by omega)
              have g3 : decide (i < s.size) = false := decide_eq_false (by omega)
              have HZ : Hid ((convert 103 9 (.slice (some ⟨W.heap.size, 0, none⟩) nsz nsz)).run Tryz.prog wr = .ok (.string (X.ba (X.escL l))) wr) := hid (by
                obtain ⟨cur, h1, h2, h3⟩ := HI.out.2.2.row
                have hle : l.take i = l := List.take_of_length_le (by rw [← HL.out.2]; exact hge)
                have hj : j = nsz := by rw [HN.out.1, HI.out.2.1, hle]
                rw [hle, hj] at h3
                rw [List.take_of_length_le (by rw [Array.length_toList, h2]; exact Nat.le_refl _)] at h3
                have hlen : (X.escL l).length = nsz := HN.out.1.symm
                have := run_convert_bytes_back (P := Tryz.prog) wr 103 9 5 ⟨W.heap.size, 0, none⟩ nsz (X.escL l) Tryz.underlying103 Tryz.underlying5 Tryz.underlying9 (fun i hi => by
                  have hadd : (⟨W.heap.size, 0, none⟩ : Addr).add i = ⟨W.heap.size, i, none⟩ := by unfold Addr.add; split <;> simp_all
                  rw [hadd, rowCell h1, ← Array.getElem?_toList, h3, List.getElem?_map, List.getElem?_eq_getElem hi]
                  rfl)
                rw [hlen] at this
                exact this)
              have HZ2 := HZ.out
              have HBF := hid HI.out.2.2.below
              clear HZ
              go_wp2_with fail
              go_ret
              exact ⟨rfl, HWV.out.trans (HBF.out.mono HWV.out.size)⟩

  · have g0 : decide ((56 : Int) ≤ (s.size : Int)) = true := decide_eq_true (by omega)
    have g1 : decide (56 ≤ s.size) = true := decide_eq_true (by omega)
    clear hl hsz hT
    go_enter Tryz.func181, Tryz.ntmps181
    go_wp2_with fail
    go_loopw [5, 6, 8, 9, 32] (fun v5 v6 _ _ v32 wr => ∃ (i nsz : Nat) (b : Bool), v5 = .int .i64 nsz ∧ v6 = .bool b ∧ v32 = .int .i64 i ∧ Hid (i ≤ 7 ∧ nsz = s.size + X.sumK l (keysR.take i) ∧ b = X.anyC l (keysR.take i)) ∧ Hid (Below W.heap.size W wr)) (fun _ _ _ _ vi _ => 7 - (intOf vi).toNat)
    case atStart => exact ⟨0, s.size, false, rfl, rfl, rfl, hid ⟨Nat.zero_le _, rfl, rfl⟩, hid (Below.refl _ W)⟩
    case round =>
      obtain ⟨i, nsz, b, rfl, rfl, rfl, HI, HW⟩ := hrel
      rcases Nat.lt_or_ge i 7 with hlt | hge
      · have g2 : decide ((i : Int) < 7) = true := decide_eq_true (by omega)
        have g3 : decide (i < 7) = true := decide_eq_true hlt
        have P1 : (0 : Int) ≤ (i : Int) := by omega
        have P2 : (i : Int) < 7 := by omega
        obtain ⟨k, hk1, -, -, -⟩ := keysR_get i hlt
        obtain ⟨kn, hkn⟩ : ∃ kn, k.toNat = kn := ⟨_, rfl⟩
        have hcl : kn < 256 := by rw [← hkn]; exact UInt8.toNat_lt _
        have P3 : (kn : Int) < 256 := by omega
        have htk : keysR.take (i + 1) = keysR.take i ++ [k] := by rw [List.take_add_one, hk1]; rfl
        have HTr := HT.out.keep HW.out
        have hmem : k ∈ keysR := List.mem_of_getElem? hk1
        obtain ⟨g, cp, tc, -, -, -⟩ := (HTr.val k).resolve_left (fun h => h.1 hmem) |>.2
        have xk := HTr.strs i k (by rw [List.take_of_length_le (by decide)]; exact hk1)
        obtain ⟨a, ha⟩ : ∃ a, X.ba [k] = a := ⟨_, rfl⟩
        obtain ⟨q, hq⟩ : ∃ q, Lib.countByte s.data.toList k = q := ⟨_, rfl⟩
        have hql : q ≤ 1000000000 := by
          have h1 := List.count_le_length (a := k) (l := s.data.toList)
          rw [← Lib.size_eq] at h1
          have h2 : q = s.data.toList.count k := hq.symm
          omega
        have cQ := fun U => Tryz.strings_Count_one s k U
        rw [hq] at cQ
        rw [show (⟨#[k]⟩ : ByteArray) = a from ha] at cQ
        have hacs : 0 < a.size := by rw [← ha]; exact Nat.succ_pos 0
        have hac0 : (a[0]'hacs).toNat = kn := by subst ha; exact hkn
        rw [ha] at xk
        rw [hkn] at tc
        obtain ⟨m, hm⟩ : ∃ m, (X.escB k).length = m := ⟨_, rfl⟩
        have hpos := X.escB_pos k
        have hle5 := X.escB_len k
        rw [hm] at tc hpos hle5
        obtain ⟨m1, rfl⟩ : ∃ m1, m = m1 + 1 := ⟨m - 1, by omega⟩
        have HX : Hid (X.sumK l (keysR.take (i + 1)) = X.sumK l (keysR.take i) + q * m1 ∧ X.anyC l (keysR.take (i + 1)) = (X.anyC l (keysR.take i) || decide (q ≠ 0))) := hid (by
          have e : l.count k = q := by rw [← hq, HL.out.1]; rfl
          rw [htk, X.sumK_app, X.anyC_app, e, hm]
          exact ⟨rfl, rfl⟩)
        have hqm : q * m1 ≤ 5000000000 := by
          have : q * m1 ≤ 1000000000 * 5 := Nat.mul_le_mul hql (by omega)
          omega
        have hnb : nsz ≤ 40000000000 := by
          have h1 := HI.out.2.1
          have h3 := HL.out.2
          have h4 : X.sumK l (keysR.take i) ≤ 5 * l.length := X.sumK_le l i
          omega
        clear hk1 hkn htk HTr hmem ha hq hm
        by_cases hq0 : q = 0
        · subst hq0
          go_wp2_with fail
          refine (cQ _).mono ?_
          rintro e w1 ⟨rfl, rfl⟩
          go_wp2_with fail
          refine ⟨⟨i + 1, nsz, b, rfl, rfl, by congr 1, hid ⟨by omega, ?_, ?_⟩, HW⟩, by simp only [intOf]; omega⟩
          · rw [HX.out.1]; have := HI.out.2.1; omega
          · rw [HX.out.2, ← HI.out.2.2]; cases b <;> rfl
        · have q0 : ((q : Int) != 0) = true := by simp; omega
          go_wp2_with fail
          refine (cQ _).mono ?_
          rintro e w1 ⟨rfl, rfl⟩
          go_wp2_with fail
          have HQ : Hid (decide (q ≠ 0) = true) := hid (decide_eq_true hq0)
          go_region
          all_goals
            go_wp2_with fail
            refine ⟨⟨i + 1, nsz + q * m1, true, by congr 1, rfl, by congr 1, hid ⟨by omega, ?_, ?_⟩, hid HW.out.drew⟩, by simp only [intOf]; omega⟩
            · rw [HX.out.1]; have := HI.out.2.1; omega
            · rw [HX.out.2, HQ.out, Bool.or_true]
      · have g2 : decide ((i : Int) < 7) = false := decide_eq_false (by omega)
        have g3 : decide (i < 7) = false := decide_eq_false (by omega)
        have hi7 : i = 7 := by have := HI.out.1; omega
        have HN : Hid (nsz = (X.escL l).length ∧ b = X.anyK l) := hid (by
          have h1 := HI.out.2.1
          have h2 := HI.out.2.2
          rw [hi7, List.take_of_length_le (by decide)] at h1 h2
          rw [X.anyC_all] at h2
          exact ⟨by rw [X.escL_size, ← HL.out.2]; exact h1, h2⟩)
        clear hi7
        obtain ⟨wv, rfl⟩ : ∃ wv, wv = wr := ⟨_, rfl⟩
        have HWV := HW
        have HTV : Hid (TabAt B wv T L 7) := hid (HT.out.keep HW.out)
        cases b
        · have HE : Hid (s = X.ba (X.escL l)) := hid (by rw [X.escL_nokey l HN.out.2.symm, ← HL.out.1]; exact (ba_self s).symm)
          go_wp2_with fail
          go_ret
          exact ⟨by rw [← HE.out]; rfl, HWV.out⟩
        · have hnz : nsz ≤ 6000000000 := by
            have h1 := HN.out.1
            have h2 := X.escL_len l
            have h3 := HL.out.2
            omega
          obtain ⟨i0, hi0, hz0, hs0, hb0⟩ : ∃ i0, Tryz.prog.info? 5 = some i0 ∧ i0.zero = some (.int .u8 0) ∧ i0.size = 1 ∧ i0.bytes = 1 := ⟨_, rfl, rfl, rfl, rfl⟩
          have hmk : (Instr.makeSlice 103 (.int .i64 nsz) (.int .i64 nsz)).run Tryz.prog wv = .ok (.slice (some ⟨wv.heap.size, 0, none⟩) nsz nsz) (wv.alloc (.cells (madeCells #[.int .u8 0] nsz) 5)) := by
            have := run_make (P := Tryz.prog) wv _ _ i0 _ Tryz.underlying103 hi0 hz0 .i64 .i64 nsz nsz (by omega) (Int.le_refl _) (by rw [hb0]; omega) (by omega)
            rw [hs0, Int.toNat_natCast, Nat.mul_one] at this
            exact this
          obtain ⟨w1, hw1⟩ : ∃ w1, wv.alloc (.cells (madeCells #[.int .u8 0] nsz) 5) = w1 := ⟨_, rfl⟩
          have HB1 : Hid (BufAt wv w1 wv.heap.size nsz 0 []) := hid ⟨by rw [← hw1]; exact (Below.refl _ wv).alloc (Nat.le_refl _) _, _, by rw [← hw1]; exact heap_alloc_new wv _, size_madeCells _ _, rfl⟩
          rw [hw1] at hmk
          clear hw1
          have hsz0 : (Tryz.prog.info? 5).map (·.size) = some 1 := by rw [hi0]; simp [hs0]
          have HINF := hid hsz0
          clear hi0 hz0 hs0 hb0 hsz0
          go_wp2_with fail
          go_loopw [13, 14, 15] (fun v13 v14 _ wr => ∃ (i j : Nat), v13 = .int .i64 j ∧ v14 = .int .i64 i ∧ Hid (i ≤ s.size ∧ j = (X.escL (l.take i)).length ∧ BufAt wv wr wv.heap.size nsz j (X.escL (l.take i)))) (fun _ vi _ _ => s.size - (intOf vi).toNat)
          case atStart => exact ⟨0, 0, rfl, rfl, hid ⟨Nat.zero_le _, rfl, HB1.out⟩⟩
          case round =>
            obtain ⟨i, j, rfl, rfl, HI⟩ := hrel
            rcases Nat.lt_or_ge i s.size with hlt | hge
            · have g2 : decide ((i : Int) < (s.size : Int)) = true := decide_eq_true (by omega)
              have g3 : decide (i < s.size) = true := decide_eq_true hlt
              obtain ⟨c, hc1, hc2⟩ := HBY.out i hlt
              obtain ⟨cn, hcn⟩ : ∃ cn, c.toNat = cn := ⟨_, rfl⟩
              have hcl : cn < 256 := by rw [← hcn]; exact UInt8.toNat_lt _
              have hsc : (s[i]'hlt).toNat = cn := by rw [hc2, hcn]
              have htk : l.take (i + 1) = l.take i ++ [c] := by rw [List.take_add_one, hc1]; rfl
              have hv := (HTV.out.keep HI.out.2.2.below).val c
              rw [hcn] at hv
              have HX : Hid (X.escL (l.take (i + 1)) = X.escL (l.take i) ++ X.escB c) := hid (by rw [htk, X.escL_app, show X.escL [c] = X.escB c from List.append_nil _])
              have hroom : j + (X.escB c).length ≤ nsz := by
                have h1 := HN.out.1
                have e : l = l.take (i + 1) ++ l.drop (i + 1) := (List.take_append_drop _ _).symm
                rw [e, X.escL_app, List.length_append, HX.out, List.length_append] at h1
                have := HI.out.2.1
                omega
              have hpos := X.escB_pos c
              have HC : Hid (c.toNat = cn) := hid hcn
              obtain ⟨cur, hcur, hcs, hct⟩ := HI.out.2.2.row
              have hjn : j < nsz := by omega
              have P0 : (0 : Int) ≤ (j : Int) := by omega
              have P1 : (j : Int) < (nsz : Int) := by omega
              have P2 : (j : Int) ≤ (nsz : Int) := by omega
              obtain ⟨v0, hv0⟩ : ∃ v0, wr.cell? ⟨wv.heap.size, j, none⟩ = some v0 := ⟨cur[j]'(by omega), by rw [rowCell hcur]; exact Array.getElem?_eq_getElem (by omega)⟩
              have hf0 : wr.frozen? ⟨wv.heap.size, j, none⟩ = false := rowFree hcur j
              have HCUR : Hid (wr.heap[wv.heap.size]? = some (.cells cur 5 (0, 0)) ∧ cur.size = nsz ∧ cur.toList.take j = (X.escL (l.take i)).map fun c => .int .u8 c.toNat) := hid ⟨hcur, hcs, hct⟩
              clear hcur hcs hct
              rcases hv with ⟨hk, tc⟩ | ⟨hk, g, cp, tc, hg, hgT, hgc⟩
              · have HY : Hid (X.escB c = [c]) := hid (X.escB_nokey c hk)
                clear hc1 hc2 hcn htk hk hpos hroom
                go_wp2_with fail
                refine ⟨⟨i + 1, j + 1, by congr 1, by congr 1, hid ⟨hlt, ?_, ?_⟩⟩, ?_⟩
                · rw [HX.out, HY.out, List.length_append]; have := HI.out.2.1; simp only [List.length_cons, List.length_nil]; omega
                · obtain ⟨h1, h2, h3⟩ := HCUR.out
                  refine ⟨HI.out.2.2.below.setCell (p := ⟨wv.heap.size, j, none⟩) (Nat.le_refl _) _, _, row_set h1 j _, by rw [Array.size_setIfInBounds, h2], ?_⟩
                  rw [HX.out, HY.out, List.map_append, ← h3, Array.toList_setIfInBounds, List.take_add_one, List.take_set_of_le (Nat.le_refl j), List.getElem?_set_self (by rw [Array.length_toList]; omega)]
                  show _ = _ ++ [Value.int .u8 c.toNat]
                  rw [HC.out]
                  rfl
                · simp only [intOf]; omega
              · obtain ⟨m, hm⟩ : ∃ m, (X.escB c).length = m := ⟨_, rfl⟩
                rw [hm] at tc hpos hroom
                have HG : Hid (g < wr.heap.size ∧ ∀ i x, (X.escB c)[i]? = some x → wr.cell? ⟨g, i, none⟩ = some (.int .u8 x.toNat)) := hid ⟨hg, hgc⟩
                have HY : Hid ((X.escB c).length = m) := hid hm
                clear hc1 hc2 hcn htk hk hm hgc hgT hg
                obtain ⟨h1, h2, h3⟩ := HCUR.out
                have HCP : Hid (∀ w : World, w.heap = wr.heap → (Builtin.copy_ #[103, 103] 3 #[.slice (some ⟨wv.heap.size, j, none⟩) (nsz - j) (nsz - j), .slice (some ⟨g, 0, none⟩) m cp]).run Tryz.prog w = .ok (goInt m) (w.setRow wv.heap.size (cur.toList.take j ++ ((X.escB c).map fun c => Value.int .u8 c.toNat) ++ cur.toList.drop (j + m)).toArray)) := hid (fun w hw => by
                  have hl2 : ((X.escB c).map fun c => Value.int .u8 c.toNat).length = m := by rw [List.length_map]; exact HY.out
                  have := run_copy_row (P := Tryz.prog) w 103 103 3 5 wv.heap.size j (nsz - j) (nsz - j) ⟨g, 0, none⟩ m cp cur 5 ((X.escB c).map fun c => Value.int .u8 c.toNat) Tryz.underlying103 HINF.out (by rw [hw]; exact h1) (by rw [hl2]; show m = min m (nsz - j); omega) (fun i v hv => by
                    rw [List.getElem?_map] at hv
                    cases hx : (X.escB c)[i]? with
                    | none => rw [hx] at hv; cases hv
                    | some x =>
                      rw [hx] at hv
                      have := HG.out.2 i x hx
                      have hadd : (⟨g, 0, none⟩ : Addr).add i = ⟨g, i, none⟩ := by unfold Addr.add; split <;> simp_all
                      rw [hadd, World.cell?_of_block (a := ⟨g, i, none⟩) (w := wr) (by rw [hw]), this]
                      exact hv) (by rw [hl2]; omega) (by
                    intro v hv
                    obtain ⟨x, -, rfl⟩ := List.mem_map.1 hv
                    rfl)
                  rw [hl2] at this
                  exact this)
                clear h1 h2 h3
                have hjne : ¬ nsz = j := by omega
                have P4 : (cn : Int) < 256 := by omega
                go_wp2_with fail
                go_region_law (refine step_copy_runI rfl (.tmp 105) (.tmp 111) 103 103 rfl _ _ rfl rfl (HCP.out _ rfl) ?_)
                go_wp2_with fail
                refine ⟨⟨i + 1, j + m, by congr 1, by congr 1, hid ⟨hlt, ?_, ?_⟩⟩, by simp only [intOf]; omega⟩
                · rw [HX.out, List.length_append, HY.out]; have := HI.out.2.1; omega
                · obtain ⟨h1, h2, h3⟩ := HCUR.out
                  have hl2 : ((X.escB c).map fun c => Value.int .u8 c.toNat).length = m := by rw [List.length_map]; exact HY.out
                  have hl3 : (cur.toList.take j).length = j := by rw [List.length_take, Array.length_toList, h2]; omega
                  refine ⟨below_setRow HI.out.2.2.below.drew (Nat.le_refl _) _, _, setRow_heap wr.drew wv.heap.size cur _ 5 (0, 0) h1, ?_, ?_⟩
                  · rw [List.size_toArray, List.length_append, List.length_append, hl3, hl2, List.length_drop, Array.length_toList, h2]; omega
                  · rw [List.toList_toArray, ← List.append_assoc, List.take_left' (by rw [List.length_append, hl3, hl2]), HX.out, List.map_append, h3]
            · have g2 : decide ((i : Int) < (s.size : Int)) = false := decide_eq_false (by omega)
              have g3 : decide (i < s.size) = false := decide_eq_false (by omega)
              have HZ : Hid ((convert 103 9 (.slice (some ⟨wv.heap.size, 0, none⟩) nsz nsz)).run Tryz.prog wr = .ok (.string (X.ba (X.escL l))) wr) := hid (by
                obtain ⟨cur, h1, h2, h3⟩ := HI.out.2.2.row
                have hle : l.take i = l := List.take_of_length_le (by rw [← HL.out.2]; exact hge)
                have hj : j = nsz := by rw [HN.out.1, HI.out.2.1, hle]
                rw [hle, hj] at h3
                rw [List.take_of_length_le (by rw [Array.length_toList, h2]; exact Nat.le_refl _)] at h3
                have hlen : (X.escL l).length = nsz := HN.out.1.symm
                have := run_convert_bytes_back (P := Tryz.prog) wr 103 9 5 ⟨wv.heap.size, 0, none⟩ nsz (X.escL l) Tryz.underlying103 Tryz.underlying5 Tryz.underlying9 (fun i hi => by
                  have hadd : (⟨wv.heap.size, 0, none⟩ : Addr).add i = ⟨wv.heap.size, i, none⟩ := by unfold Addr.add; split <;> simp_all
                  rw [hadd, rowCell h1, ← Array.getElem?_toList, h3, List.getElem?_map, List.getElem?_eq_getElem hi]
                  rfl)
                rw [hlen] at this
                exact this)
              have HZ2 := HZ.out
              have HBF := hid HI.out.2.2.below
              clear HZ
              go_wp2_with fail
              go_ret
              exact ⟨rfl, HWV.out.trans (HBF.out.mono HWV.out.size)⟩

end Go.Proofs.YtakplnceiibmlaaGreatDoor
