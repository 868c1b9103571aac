/- Where a byte stands. -/
import Derived.Test.YtakplnceiibmlaaGreatDoorMRes
import Derived.Test.YtakplnceiibmlaaGreatDoorShelfL
import Derived.Lib.LastIndexByte
namespace Go.Proofs.YtakplnceiibmlaaGreatDoor
open Go.RowKit
open Go.Lib (hid)
theorem last_col (s : ByteArray) : ∀ k : Nat, k ≤ s.size → (k : Int) - Lib.lastIdx s 10 k = (((s.data.toList.take k).reverse.takeWhile (fun c => c != 10)).length : Int) + 1
  | 0, _ => by simp [Lib.lastIdx]
  | k + 1, h => by
    have ih := last_col s k (by omega)
    have hk : k < s.data.toList.length := by rw [← Lib.size_eq]; omega
    have hk2 : k < s.data.size := by simpa using hk
    have ht : s.data.toList.take (k + 1) = s.data.toList.take k ++ [s.data.toList[k]] := by rw [List.take_add_one, List.getElem?_eq_getElem hk]; rfl
    have hx : s.data[k]! = s.data.toList[k] := by rw [getElem!_pos s.data k hk2]; simp
    rw [ht, List.reverse_append, List.reverse_cons, List.reverse_nil, List.nil_append, List.singleton_append, List.takeWhile_cons]
    by_cases hc : s.data.toList[k] = 10
    · rw [Lib.lastIdx_hit s 10 k (by rw [hx, hc]; rfl), if_neg (by simp [hc])]
      simp; omega
    · have hne : ((s.data[k]!).toNat : Int) ≠ 10 := by
        rw [hx]
        intro e
        exact hc (UInt8.toNat.inj (by have : s.data.toList[k].toNat = 10 := by omega
                                      exact this))
      rw [Lib.lastIdx_miss s 10 k hne, if_pos (by simpa using hc)]
      rw [List.length_cons]
      omega
def posV (s : ByteArray) (p : Nat) : Value := .agg #[.int .i64 (X.lineOf s.data.toList p), .int .i64 (X.colOf s.data.toList p)]
theorem infoPos : (Tryz.prog.info? 26).map (·.size) = some 2 := by kernel_rfl
set_option maxRecDepth 100000 in
set_option maxHeartbeats 1000000 in
theorem place_any (s : ByteArray) (p : Nat) (hp : p ≤ s.size) (hs : s.size ≤ 1000000000000) (W : World) :
    Calls Tryz.prog 17 #[.string s, .int .i64 p] W fun en W' => en = .returned (posV s p) ∧ Below W.heap.size W W' := by
  obtain ⟨t, ht⟩ : ∃ t, s.extract 0 p = t := ⟨_, rfl⟩
  have htl : t.data.toList = s.data.toList.take p := by rw [← ht, cut_list]; simp
  have htz : t.size = p := by rw [Lib.size_eq, htl, List.length_take, ← Lib.size_eq]; omega
  have cC := fun U => Tryz.strings_Count_one t 10 U
  have cL := fun U => Tryz.strings_LastIndex_one t ⟨#[10]⟩ rfl (by omega) U
  have hcol := last_col t t.size (Nat.le_refl _)
  have hln : X.lineOf s.data.toList p = Lib.countByte t.data.toList 10 + 1 := by rw [htl]; rfl
  have hcl : (X.colOf s.data.toList p : Int) = (p : Int) - Lib.lastIndexByte t 10 := by
    have : Lib.lastIndexByte t 10 = Lib.lastIdx t 10 t.size := rfl
    rw [this]
    rw [htz] at hcol ⊢
    rw [hcol, htl, List.take_take, Nat.min_self]
    unfold X.colOf
    omega
  have hcnt : Lib.countByte t.data.toList 10 ≤ p := by
    unfold Lib.countByte
    have := List.count_le_length (a := (10 : UInt8)) (l := t.data.toList)
    rw [← Lib.size_eq, htz] at this
    exact this
  have hcb : X.colOf s.data.toList p ≤ p + 1 := by
    unfold X.colOf
    have := (List.takeWhile_prefix (fun c : UInt8 => c != 10) (l := (s.data.toList.take p).reverse)).length_le
    rw [List.length_reverse, List.length_take] at this
    omega
  obtain ⟨ln, hlne⟩ : ∃ ln, X.lineOf s.data.toList p = ln := ⟨_, rfl⟩
  obtain ⟨cl, hcle⟩ : ∃ cl, X.colOf s.data.toList p = cl := ⟨_, rfl⟩
  obtain ⟨cnt, hcnte⟩ : ∃ cnt, Lib.countByte t.data.toList 10 = cnt := ⟨_, rfl⟩
  obtain ⟨li, hlie⟩ : ∃ li, Lib.lastIndexByte t 10 = li := ⟨_, rfl⟩
  unfold posV
  rw [hlne, hcle]
  rw [hcnte] at cC hln hcnt
  rw [hcle, hlie] at hcl
  rw [hcle] at hcb
  rw [hlne] at hln
  replace cL : ∀ U, Calls Tryz.prog 31 #[.string t, .string ⟨#[10]⟩] U fun e w' => e = .returned (.int .i64 li) ∧ w' = U := fun U => by
    have := cL U
    rw [show (((⟨#[10]⟩ : ByteArray)[0]'(by decide)).toNat : Int) = 10 from rfl, hlie] at this
    exact this
  have e1 : IntKind.i64.wrap (1 + (cnt : Int)) = (ln : Int) := by rw [IntKind.wrap_i64] <;> omega
  have e2 : IntKind.i64.wrap ((p : Int) - li) = (cl : Int) := by rw [IntKind.wrap_i64] <;> omega
  have P0 : (0 : Int) ≤ (p : Int) := by omega
  have P1 : (p : Int) ≤ (s.size : Int) := by omega
  clear htl htz hcol hln hcl hcnt hcb hlne hcle hcnte hlie
  obtain ⟨w1, hw1⟩ : ∃ w1, W.alloc (.cells #[.int .i64 0, .int .i64 0] 26) = w1 := ⟨_, rfl⟩
  have hX1 : w1.heap[W.heap.size]? = some (.cells #[.int .i64 0, .int .i64 0] 26 (0, 0)) := by rw [← hw1]; exact heap_alloc_new W _
  have HB : Hid (Below W.heap.size W w1) := by show Below _ _ _; rw [← hw1]; exact (Below.refl _ W).alloc (Nat.le_refl _) _
  obtain ⟨x0, x1⟩ := row2 hX1
  have f0 := rowFree hX1 0
  have f1 := rowFree hX1 1
  have HX1 := hid hX1
  have HW1 := hid hw1
  clear hX1 hw1
  go_enter Tryz.func17, Tryz.ntmps17
  go_upto_region 1 with fail
  rw [HW1.out]
  go_wp2_with fail
  refine (cC _).mono ?_
  rintro e w2 ⟨rfl, hw⟩
  rw [hw]
  clear hw w2
  go_wp2_with fail
  refine (cL _).mono ?_
  rintro e w2 ⟨rfl, hw⟩
  rw [hw]
  clear hw w2
  go_wp2_with fail
  exact bodyPost_ret (v := .agg #[.int .i64 ln, .int .i64 cl]) (results_cell_row rfl _ _ W.heap.size 26 _ (0, 0) _ rfl (row_set (row_set HX1.out 0 _) 1 _) Tryz.underlying26 rfl infoPos) rfl ⟨rfl, (HB.out.setCell (p := ⟨W.heap.size, 0, none⟩) (Nat.le_refl _) _).setCell (p := ⟨W.heap.size, 1, none⟩) (Nat.le_refl _) _⟩
end Go.Proofs.YtakplnceiibmlaaGreatDoor
