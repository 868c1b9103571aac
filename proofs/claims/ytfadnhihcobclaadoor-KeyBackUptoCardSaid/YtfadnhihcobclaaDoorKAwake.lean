/- The walk of awake: some of the examples. -/
import Derived.Test.YtfadnhihcobclaaDoorKNum
import Derived.Test.YtfadnhihcobclaaDoorKEncode
namespace Go.Proofs.YtfadnhihcobclaaDoor
open Go.RowKit
open Go.Lib (hid)

namespace K
def egParts : List Part := [⟨false, 1, ⟨#[]⟩⟩, ⟨true, 0, ⟨#[97]⟩⟩]
def egItems : Items := .cons 3 0 ⟨#[]⟩ (.cons 2 0 ⟨#[97]⟩ .nil (.cons 1 (-1) ⟨#[]⟩ .nil .nil)) .nil
theorem egParts_eq : pack egParts = ([1, 128, 0, 0, 0, 0, 0, 0, 1, 2, 97, 0, 0], 0) := by decide +kernel
theorem egItems_eq : encode egItems = ([3, 2, 2, 1, 97, 1, 1], 0) := by decide +kernel
end K
/-- the variable that a library's search asks -/
def Max (w : World) : Prop := ∃ m, w.cell? ⟨0, 0, none⟩ = some (.int .i64 m)
theorem Max.below {w w' : World} (h : Max w) (hb : Below w.heap.size w w') : Max w' := by
  obtain ⟨m, hm⟩ := h
  exact ⟨m, by rw [hb.cell (p := ⟨0, 0, none⟩) (Lib.lt_of_cell hm)]; exact hm⟩

set_option maxRecDepth 100000 in
set_option maxHeartbeats 4000000 in
theorem awake_any (w : World) (hM : Max w) :
    Calls Tryd.prog 9 #[] w fun e w' => e = .returned (.bool true) ∧ Below w.heap.size w w' := by
  have HM := hid hM
  clear hM
  go_enter Tryd.func9, Tryd.ntmps9
  go_wp2_with fail
  refine (num_any 1 w).mono ?_
  rintro e w1 ⟨rfl, b1⟩
  have B1 := hid b1
  clear b1
  go_wp2_with fail
  refine (str_any ⟨#[97]⟩ w1).mono ?_
  rintro e w2 ⟨rfl, b2⟩
  have B2 := hid (B1.out.trans (b2.mono B1.out.size))
  clear b2
  have hA : Below w.heap.size w (w2.alloc (.cells #[.bool false, .int .i64 1, .string ⟨#[]⟩, .bool true, .int .i64 0, .string ⟨#[97]⟩] 26)) := B2.out.alloc B2.out.size _
  have cP := pack_any w2.heap.size 2 2 K.egParts rfl (by omega) (w2.alloc (.cells #[.bool false, .int .i64 1, .string ⟨#[]⟩, .bool true, .int .i64 0, .string ⟨#[97]⟩] 26)) (fun j u hj => by
    rw [cell_of_row _ _ _ _ _ _ (heap_alloc_new w2 _)]
    simpa [K.egParts, K.rowOf, K.Part.cells] using hj) (fun p hp => by
    simp only [K.egParts, List.mem_cons, List.not_mem_nil, or_false] at hp
    rcases hp with rfl | rfl
    · exact ⟨by decide, by decide, by decide⟩
    · exact ⟨by decide, by decide, by decide⟩) (HM.out.below hA)
  rw [K.egParts_eq] at cP
  have HA := hid hA
  clear hA
  go_wp2_with fail
  refine cP.mono ?_
  rintro e w3 ⟨rfl, b3⟩
  have B3 := hid (HA.out.trans (b3.mono HA.out.size))
  clear b3 cP
  have hb4 : Below w.heap.size w ((w3.alloc (.cells #[.int .u8 2, .int .i64 0, .string ⟨#[97]⟩, .slice none 0 0, .int .u8 1, .int .i64 (-1), .string ⟨#[]⟩, .slice none 0 0] 62)).alloc (.cells #[.int .u8 3, .int .i64 0, .string ⟨#[]⟩, .slice (some ⟨w3.heap.size, 0, none⟩) 2 2] 62)) := (B3.out.alloc B3.out.size _).alloc (by have := B3.out.size; simp; omega) _
  have hI : K.Items.In ((w3.alloc (.cells #[.int .u8 2, .int .i64 0, .string ⟨#[97]⟩, .slice none 0 0, .int .u8 1, .int .i64 (-1), .string ⟨#[]⟩, .slice none 0 0] 62)).alloc (.cells #[.int .u8 3, .int .i64 0, .string ⟨#[]⟩, .slice (some ⟨w3.heap.size, 0, none⟩) 2 2] 62)) (((w3.alloc (.cells #[.int .u8 2, .int .i64 0, .string ⟨#[97]⟩, .slice none 0 0, .int .u8 1, .int .i64 (-1), .string ⟨#[]⟩, .slice none 0 0] 62)).alloc (.cells #[.int .u8 3, .int .i64 0, .string ⟨#[]⟩, .slice (some ⟨w3.heap.size, 0, none⟩) 2 2] 62))).heap.size K.egItems (.slice (some ⟨w3.heap.size + 1, 0, none⟩) 1 1) := by
    have e1 : ((((w3.alloc (.cells #[.int .u8 2, .int .i64 0, .string ⟨#[97]⟩, .slice none 0 0, .int .u8 1, .int .i64 (-1), .string ⟨#[]⟩, .slice none 0 0] 62)).alloc (.cells #[.int .u8 3, .int .i64 0, .string ⟨#[]⟩, .slice (some ⟨w3.heap.size, 0, none⟩) 2 2] 62))).heap)[w3.heap.size]? = some (.cells #[.int .u8 2, .int .i64 0, .string ⟨#[97]⟩, .slice none 0 0, .int .u8 1, .int .i64 (-1), .string ⟨#[]⟩, .slice none 0 0] 62 (0, 0)) := by
      rw [Lib.alloc_old _ _ _ (by simp)]; exact heap_alloc_new w3 _
    have e2 : ((((w3.alloc (.cells #[.int .u8 2, .int .i64 0, .string ⟨#[97]⟩, .slice none 0 0, .int .u8 1, .int .i64 (-1), .string ⟨#[]⟩, .slice none 0 0] 62)).alloc (.cells #[.int .u8 3, .int .i64 0, .string ⟨#[]⟩, .slice (some ⟨w3.heap.size, 0, none⟩) 2 2] 62))).heap)[w3.heap.size + 1]? = some (.cells #[.int .u8 3, .int .i64 0, .string ⟨#[]⟩, .slice (some ⟨w3.heap.size, 0, none⟩) 2 2] 62 (0, 0)) := by
      have := heap_alloc_new (w3.alloc (.cells #[.int .u8 2, .int .i64 0, .string ⟨#[97]⟩, .slice none 0 0, .int .u8 1, .int .i64 (-1), .string ⟨#[]⟩, .slice none 0 0] 62)) (.cells #[.int .u8 3, .int .i64 0, .string ⟨#[]⟩, .slice (some ⟨w3.heap.size, 0, none⟩) 2 2] 62)
      rw [show (w3.alloc (.cells #[.int .u8 2, .int .i64 0, .string ⟨#[97]⟩, .slice none 0 0, .int .u8 1, .int .i64 (-1), .string ⟨#[]⟩, .slice none 0 0] 62)).heap.size = w3.heap.size + 1 by simp] at this
      exact this
    have hs : (((w3.alloc (.cells #[.int .u8 2, .int .i64 0, .string ⟨#[97]⟩, .slice none 0 0, .int .u8 1, .int .i64 (-1), .string ⟨#[]⟩, .slice none 0 0] 62)).alloc (.cells #[.int .u8 3, .int .i64 0, .string ⟨#[]⟩, .slice (some ⟨w3.heap.size, 0, none⟩) 2 2] 62))).heap.size = w3.heap.size + 2 := by simp
    rw [hs]
    refine Or.inr ⟨w3.heap.size + 1, 0, 1, rfl, by omega, ?_, ?_, ?_, ⟨_, ?_, Or.inr ⟨w3.heap.size, 0, 2, rfl, ⟨by omega, ?_, ?_, ?_, ⟨_, ?_, Or.inl ⟨none, 0, rfl, rfl⟩⟩, ⟨by omega, ?_, ?_, ?_, ⟨_, ?_, Or.inl ⟨none, 0, rfl, rfl⟩⟩, trivial⟩⟩⟩⟩, trivial⟩
    all_goals first | (rw [cell_of_row _ _ _ _ _ _ e2]; rfl) | (rw [cell_of_row _ _ _ _ _ _ e1]; rfl)
  have cE := encode_any K.egItems (.slice (some ⟨w3.heap.size + 1, 0, none⟩) 1 1) _ hI (by simp [K.Items.may, K.egItems, K.Items.length]; decide) (by decide)
  rw [K.egItems_eq] at cE
  have HB4 := hid hb4
  clear hb4 hI
  go_wp2_with fail
  refine cE.mono ?_
  rintro e w5 ⟨rfl, b5⟩
  have B5 := hid (HB4.out.trans (b5.mono HB4.out.size))
  clear b5 cE
  go_wp2_with fail
  go_ret
  exact ⟨rfl, B5.out⟩
end Go.Proofs.YtfadnhihcobclaaDoor
