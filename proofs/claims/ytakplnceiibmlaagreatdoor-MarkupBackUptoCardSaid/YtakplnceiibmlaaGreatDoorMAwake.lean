/- awake: one text is read as one element. -/
import Derived.Test.YtakplnceiibmlaaGreatDoorMParse
namespace Go.Proofs.YtakplnceiibmlaaGreatDoor
open Go.RowKit
open Go.Lib (hid)
def awE : X.E := ⟨⟨#[117]⟩, ⟨#[97]⟩, [⟨⟨#[]⟩, ⟨#[120]⟩, ⟨#[60, 65]⟩⟩], .cons ⟨#[]⟩ ⟨#[98]⟩ [] .nil ⟨#[]⟩ 1 32 .nil, ⟨#[116, 60]⟩, 1, 1⟩
theorem awake_parse : X.parse (⟨#[60, 112, 58, 97, 32, 120, 109, 108, 110, 115, 58, 112, 61, 39, 117, 39, 32, 120, 61, 34, 38, 108, 116, 59, 38, 35, 54, 53, 59, 34, 62, 60, 98, 47, 62, 116, 60, 33, 91, 67, 68, 65, 84, 65, 91, 60, 93, 93, 62, 60, 47, 112, 58, 97, 62]⟩ : ByteArray).data.toList = .ok awE := by kernel_rfl
set_option maxRecDepth 100000 in
set_option maxHeartbeats 4000000 in
theorem awake_any (W : World) (hE : Errs W) (hT : Tabs W) :
    Calls Tryz.prog 6 #[] W fun en W' => en = .returned (.bool true) ∧ Below W.heap.size W W' := by
  have cP := parse_any ⟨#[60, 112, 58, 97, 32, 120, 109, 108, 110, 115, 58, 112, 61, 39, 117, 39, 32, 120, 61, 34, 38, 108, 116, 59, 38, 35, 54, 53, 59, 34, 62, 60, 98, 47, 62, 116, 60, 33, 91, 67, 68, 65, 84, 65, 91, 60, 93, 93, 62, 60, 47, 112, 58, 97, 62]⟩ (by decide) W hE hT
  rw [awake_parse] at cP
  clear hE hT
  go_enter Tryz.func6, Tryz.ntmps6
  go_wp2_with fail
  refine cP.mono ?_
  rintro e w1 (⟨e, cs, hx, rfl, hh, hb⟩ | ⟨n, er, hx, -, -⟩)
  rotate_left
  · cases hx
  obtain rfl : awE = e := by injection hx
  obtain ⟨av, kv, rfl, hav, hkv⟩ := hh
  obtain ⟨bA, oA, cA, rfl, hAr, hPA, haA⟩ : ∃ b o c, av = .slice (some ⟨b, o, none⟩) 1 c ∧ 1 ≤ c ∧ b < w1.heap.size ∧ ∀ j u, (attrsC [⟨⟨#[]⟩, ⟨#[120]⟩, ⟨#[60, 65]⟩⟩])[j]? = some u → w1.cell? ⟨b, o + j, none⟩ = some u := by
    rcases hav with ⟨h, _⟩ | ⟨_, b, o, c, h1, h2, h3, h4⟩
    · cases h
    · exact ⟨b, o, c, h1, h3, h2.2.1, h4⟩
  obtain ⟨bK, oK, cK, rfl, hKr, hPK, hK1⟩ : ∃ b o c, kv = .slice (some ⟨b, o, none⟩) 1 c ∧ 1 ≤ c ∧ b < w1.heap.size ∧ w1.cell? ⟨b, o + 1, none⟩ = some (.string ⟨#[98]⟩) := by
    rcases hkv with ⟨h, _⟩ | ⟨b, o, c, h1, h2, _, h4⟩
    · cases h
    · exact ⟨b, o, c, h1, h2, h4.1.2.1, h4.2.2.1⟩
  have a0 := haA 0 _ rfl
  have a1 := haA 1 _ rfl
  have a2 := haA 2 _ rfl
  rw [Nat.add_zero] at a0
  obtain ⟨D, hD⟩ : ∃ D, w1.heap.size = D := ⟨_, rfl⟩
  obtain ⟨w2, hw2⟩ : ∃ w2, (w1.alloc (.cells #[.string ⟨#[117]⟩, .string ⟨#[97]⟩, .slice (some ⟨bA, oA, none⟩) 1 cA, .slice (some ⟨bK, oK, none⟩) 1 cK, .string ⟨#[116, 60]⟩, .int .i64 1, .int .i64 1] 28)).alloc (.cells #[.int .i64 0, .int .i64 0] 26) = w2 := ⟨_, rfl⟩
  have hb2 : Below w1.heap.size w1 w2 := by rw [← hw2]; exact ((Below.refl _ w1).alloc (Nat.le_refl _) _).alloc (by simp) _
  have hD2 : w2.heap[D]? = some (.cells #[.string ⟨#[117]⟩, .string ⟨#[97]⟩, .slice (some ⟨bA, oA, none⟩) 1 cA, .slice (some ⟨bK, oK, none⟩) 1 cK, .string ⟨#[116, 60]⟩, .int .i64 1, .int .i64 1] 28 (0, 0)) := by
    rw [← hw2, Go.Lib.alloc_old _ _ D (by simp; omega), ← hD]
    exact heap_alloc_new w1 _
  obtain ⟨y0, y1, y2, y3, y4, y5, y6⟩ := row7 hD2
  have x0 := (hb2.cell (p := ⟨bA, oA, none⟩) hPA).trans a0
  have x1 := (hb2.cell (p := ⟨bA, oA + 1, none⟩) hPA).trans a1
  have x2 := (hb2.cell (p := ⟨bA, oA + 2, none⟩) hPA).trans a2
  have k1 := (hb2.cell (p := ⟨bK, oK + 1, none⟩) hPK).trans hK1
  have HB : Hid (Below W.heap.size W w2) := hb.trans (hb2.mono hb.size)
  have HW2 := hid hw2
  have HDE := hid hD
  clear hx hb hav hkv haA hK1 a0 a1 a2 hb2 hD2 hw2 hD cP hPA hPK
  rw [show awE.sp = ⟨#[117]⟩ from rfl, show awE.lo = ⟨#[97]⟩ from rfl, show awE.tx = ⟨#[116, 60]⟩ from rfl, show awE.ln = 1 from rfl, show awE.cl = 1 from rfl]
  go_upto_region 2 with fail
  rw [HW2.out, HDE.out]
  clear HW2 HDE
  go_wp2_with fail
  go_ret
  exact ⟨rfl, HB.out⟩
end Go.Proofs.YtakplnceiibmlaaGreatDoor
