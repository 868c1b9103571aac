/- The walks of Clone at binds, and of Or at two errors. -/
import Derived.Test.YtohdifffdgoaaaaDoorVCheckB
import Derived.WalkSpells
import Derived.Lib.SliceRun
import Derived.Laws.AppendOwn
namespace Go.Proofs.YtohdifffdgoaaaaDoor
open Go.RowKit
open Go.Lib (hid)
open V
theorem infoBind : (Tryd.prog.info? 43).map (fun i => (i.zero, i.size, i.bytes)) = some (some (.agg #[.string ⟨#[]⟩, .int .u8 0, .int .i64 0, .bool false, .string ⟨#[]⟩]), 5, 56) := by kernel_rfl
def OwnB (bs : List Bind) (w : World) (e : Ending) (w' : World) : Prop := ∃ v, e = .returned v ∧ BOwn w.heap.size bs v w' ∧ Below w.heap.size w w'
theorem oneCells : ∀ (bs : List Bind), ∀ u ∈ rowB bs, u.oneCell' = true
  | [], u, h => by simp [rowB] at h
  | b :: r, u, h => by
    unfold rowB at h
    rcases List.mem_append.1 h with h | h
    · simp only [Bind.cells, List.mem_cons, List.not_mem_nil, or_false] at h
      rcases h with rfl | rfl | rfl | rfl | rfl <;> rfl
    · exact oneCells r u h
set_option maxRecDepth 100000 in
set_option maxHeartbeats 4000000 in
theorem clone_any (bs : List Bind) (sv : Value) (w : World) (hin : BIn w bs sv) (hlen : bs.length * 56 ≤ 140737488355328) :
    Calls Tryd.prog 58 #[sv] w (OwnB bs w) := by
  obtain ⟨i0, hi, hz0, hz1, hz2⟩ := info_parts infoBind
  by_cases hnil : ∃ c, sv = .slice none bs.length c
  · obtain ⟨c, rfl⟩ := hnil
    have h0 : bs = [] ∧ c = 0 := by
      rcases hin with ⟨h, a, c', h1, h2⟩ | ⟨h0, b, o, c', h1, _⟩
      · simp only [Value.slice.injEq] at h1
        obtain ⟨rfl, _, rfl⟩ := h1
        exact ⟨h, h2 rfl⟩
      · simp at h1
    obtain ⟨rfl, rfl⟩ := h0
    have hE := fun W => Lib.run_eql_slice_nil (P := Tryd.prog) W 33 43 none 0 0 0 0 Tryd.underlying33
    clear hin
    go_enter Tryd.func58, Tryd.ntmps58
    go_wp2_with fail
    go_ret
    exact ⟨_, rfl, BOwn.nil _ _, Below.refl _ _⟩
  · have hsome : ∃ ad c, sv = .slice (some ad) bs.length c ∧ ∀ j u, (rowB bs)[j]? = some u → w.cell? (ad.add j) = some u := by
      rcases hin with ⟨rfl, a, c, rfl, _⟩ | ⟨_, b, o, c, rfl, _, h⟩
      · cases a with
        | none => exact absurd ⟨c, rfl⟩ hnil
        | some a => exact ⟨a, c, rfl, fun j u hj => by simp [rowB] at hj⟩
      · refine ⟨⟨b, o, none⟩, c, rfl, fun j u hj => ?_⟩
        have e : (⟨b, o, none⟩ : Addr).add j = ⟨b, o + j, none⟩ := by cases j <;> simp [Addr.add]
        rw [e]; exact h j u hj
    obtain ⟨ad, c, rfl, hcell⟩ := hsome
    have hE := fun W => Lib.run_eql_slice_nil (P := Tryd.prog) W 33 43 (some ad) bs.length c 0 0 Tryd.underlying33
    have hlt : ∀ j u, (rowB bs)[j]? = some u → (w.alloc (.cells #[] 43)).cell? (ad.add j) = some u := fun j u hj => by
      have h := hcell j u hj
      rw [((Below.refl w.heap.size w).alloc (Nat.le_refl _) (.cells #[] 43)).cell (p := ad.add j) (Lib.lt_of_cell h)]
      exact h
    have hown : World.ownsRow (w.alloc (.cells #[] 43)) w.heap.size 43 5 (.slice (some ⟨w.heap.size, 0, none⟩) 0 0) 0 [] :=
      ⟨rfl, Or.inr ⟨w.heap.size, 0, #[], rfl, Nat.le_refl _, heap_alloc_new w _, Nat.le_refl _, by decide, rfl, rfl⟩⟩
    have hlen2 := rowB_length bs
    have hone := oneCells bs
    have HL := hid hlt
    have HO := hid hown
    have HL2 := hid hlen2
    have H1 := hid hone
    clear hlt hown hlen2 hone hcell hin hnil
    go_enter Tryd.func58, Tryd.ntmps58
    go_wp2_with (at_builtin; refine wpList_append_own _ rfl _ _ 33 rfl w.heap.size 43 i0 _ 5 56 Tryd.underlying33 hi hz0 hz1 hz2 rfl (by decide) (.slice (some ⟨w.heap.size, 0, none⟩) 0 0) 0 [] rfl HO.out ad bs.length c (rowB bs) rfl HL2.out HL.out H1.out (by unfold maxLen; omega) (by omega) (by simp) ?_)
    intro v' w1 hown1 hgrow _
    have HV : Hid (BOwn w.heap.size bs v' w1) := by
      show World.ownsRow _ _ _ _ _ _ _
      exact hown1
    have HB := hid (((Below.refl w.heap.size w).alloc (Nat.le_refl _) (.cells #[] 43)).grown hgrow (by simp) (fun q hq => by simp [Value.ownBlock] at hq; omega))
    clear hown1 hgrow
    go_wp2_with fail
    go_ret
    exact ⟨_, rfl, HV.out, HB.out⟩
def or2 (a b : Int) : Int := if a ≠ 0 then a else b
set_option maxRecDepth 100000 in
set_option maxHeartbeats 4000000 in
theorem or2_any (g : Nat) (a b : Int) (w : World) (hg : w.heap[g]? = some (.cells #[.int .i64 a, .int .i64 b] 24 (0, 0))) :
    Calls Tryd.prog 62 #[.slice (some ⟨g, 0, none⟩) 2 2] w fun e w' => e = .returned (.int .i64 (or2 a b)) ∧ w' = w := by
  have c0 : w.cell? ⟨g, 0, none⟩ = some (.int .i64 a) := rowCell hg 0
  have c1 : w.cell? ⟨g, 1, none⟩ = some (.int .i64 b) := rowCell hg 1
  clear hg
  unfold or2
  by_cases ha : a = 0
  · subst ha
    rw [if_neg (by simp)]
    by_cases hb : b = 0
    · subst hb
      go_enter Tryd.func62, Tryd.ntmps62
      go_wp2_with fail
      go_loop [8] (fun i => ∃ j : Nat, j ≤ 2 ∧ i = .int .i64 j) (fun i => 2 - (intOf i).toNat)
      case atStart => exact ⟨0, by omega, rfl⟩
      case round =>
        obtain ⟨j, hj, rfl⟩ := hrel
        rcases (by omega : j = 0 ∨ j = 1 ∨ j = 2) with rfl | rfl | rfl
        · go_wp2_with fail
          go_round
          case rel => exact ⟨1, by omega, by rfl⟩
          case measure => simp [intOf]
        · go_wp2_with fail
          go_round
          case rel => exact ⟨2, by omega, by rfl⟩
          case measure => simp [intOf]
        · go_wp2_with fail
          go_ret
          exact ⟨rfl, rfl⟩
    · have q0 : (b != 0) = true := by rw [bne_iff_ne]; exact hb
      go_enter Tryd.func62, Tryd.ntmps62
      go_wp2_with fail
      go_loop [8] (fun i => ∃ j : Nat, j ≤ 1 ∧ i = .int .i64 j) (fun i => 2 - (intOf i).toNat)
      case atStart => exact ⟨0, by omega, rfl⟩
      case round =>
        obtain ⟨j, hj, rfl⟩ := hrel
        rcases (by omega : j = 0 ∨ j = 1) with rfl | rfl
        · go_wp2_with fail
          go_round
          case rel => exact ⟨1, by omega, by rfl⟩
          case measure => simp [intOf]
        · go_wp2_with fail
          go_ret
          exact ⟨rfl, rfl⟩
  · rw [if_pos ha]
    have q0 : (a != 0) = true := by rw [bne_iff_ne]; exact ha
    go_enter Tryd.func62, Tryd.ntmps62
    go_wp2_with fail
    go_loop [8] (fun i => ∃ j : Nat, j = 0 ∧ i = .int .i64 j) (fun i => 2 - (intOf i).toNat)
    case atStart => exact ⟨0, rfl, rfl⟩
    case round =>
      obtain ⟨j, rfl, rfl⟩ := hrel
      go_wp2_with fail
      go_ret
      exact ⟨rfl, rfl⟩
end Go.Proofs.YtohdifffdgoaaaaDoor
