/- The walk of key.Encode. -/
import Derived.Test.YtfadnhihcobclaaDoorKEncW
namespace Go.Proofs.YtfadnhihcobclaaDoor
open Go.RowKit
open Go.Lib (hid)
theorem Row.shape2 {B : Nat} {l : List UInt8} {v : Value} {w : World} (h : Row B l v w) : ∃ a c, v = .slice a l.length c := by
  rcases h.2 with ⟨rfl, h0⟩ | ⟨g, cap, cur, rfl, _⟩
  · exact ⟨none, 0, by rw [h0]⟩
  · exact ⟨_, _, rfl⟩

namespace K
theorem ret_enc {a b : List UInt8 × Int} (h : a = b) : Ending.returned (.tuple #[.string ⟨a.1.toArray⟩, .int .i64 a.2]) = .returned (.tuple #[.string ⟨b.1.toArray⟩, .int .i64 b.2]) := by rw [h]
end K

set_option maxRecDepth 100000 in
set_option maxHeartbeats 8000000 in
theorem encode_any (l : K.Items) (v : Value) (w : World) (hv : l.In w w.heap.size v) (hm : l.may) (hr : l.room ≤ 100000000000000) :
    Calls Tryd.prog 20 #[v] w fun e w' => e = .returned (.tuple #[.string ⟨(K.encode l).1.toArray⟩, .int .i64 (K.encode l).2]) ∧ Below w.heap.size w w' := by
  obtain ⟨E, hE⟩ : ∃ E, K.enc l 0 = E := ⟨_, rfl⟩
  obtain ⟨R, hR⟩ : ∃ R, K.encode l = R := ⟨_, rfl⟩
  rw [hR]
  unfold K.encode at hR
  rw [hE] at hR
  have hroom := K.enc_room l 0
  rw [hE] at hroom
  have hbuf : Buf w.heap.size w.heap.size [] (w.alloc (.cells #[.slice none 0 0] 76)) := ⟨_, Nat.le_refl _, heap_alloc_new w _, Row.nil _ _⟩
  have hbl : Below w.heap.size w (w.alloc (.cells #[.slice none 0 0] 76)) := (Below.refl _ w).alloc (Nat.le_refl _) _
  have cI := items_any (l.sz + 1) l (Nat.lt_succ_self _) v 0 w.heap.size w.heap.size [] _ (hv.below hbl) hm (by omega) hbuf (by simpa using hr)
  rw [hE] at cI
  have HL := hid hbl
  have HR := hid hR
  clear hE hbuf hbl hR hv
  obtain ⟨E1, E2⟩ := E
  simp only at hroom cI HR
  go_enter Tryd.func20, Tryd.ntmps20
  go_wp2_with fail
  refine cI.mono ?_
  rintro e w2 ⟨rfl, ⟨M, g1, g2⟩, g3⟩
  have HB2 := hid g1
  have HL2 := hid (HL.out.trans g3)
  by_cases e0 : E2 = 0
  · subst e0
    have hM := g2 rfl
    simp only [List.nil_append] at hM
    subst hM
    obtain ⟨v2, _, hq, hrow⟩ := g1
    have c0 := cell_of_one hq
    obtain ⟨a3, c3, rfl⟩ := hrow.shape2
    have hconv := hrow.conv
    clear g2 g3 hq hrow cI
    by_cases hbig : 100000 < M.length
    · have t0 : decide ((100000 : Int) < (M.length : Int)) = true := by simp; omega
      go_wp2_with fail
      go_ret2
      have := HR.out
      rw [if_neg (by simp), if_pos hbig] at this
      exact ⟨K.ret_enc (a := ([], 3)) this, HL2.out⟩
    · have t0 : decide ((100000 : Int) < (M.length : Int)) = false := by simp; omega
      go_wp2_with fail
      go_ret2
      have := HR.out
      rw [if_neg (by simp), if_neg hbig] at this
      exact ⟨K.ret_enc (a := (M, 0)) this, HL2.out⟩
  · have e1 : (E2 == 0) = false := beq_eq_false_iff_ne.2 e0
    have e2 : (E2 != 0) = true := by rw [bne, e1]; rfl
    have he0 := hid e0
    clear g1 g2 g3 cI e0
    go_wp2_with fail
    go_ret2
    have := HR.out
    rw [if_pos he0.out] at this
    exact ⟨K.ret_enc (a := ([], E2)) this, HL2.out⟩
end Go.Proofs.YtfadnhihcobclaaDoor
