/- pair: a name and a value into an object. (UNFINISHED: the drawn region that appends both is left.) -/
import Derived.Test.YtphjfighamadgaaGreatDoorJVal1
import Derived.Test.YtphjfighamadgaaGreatDoorShelfS
import Derived.Lib.SlicesS
namespace Go.Proofs.YtphjfighamadgaaGreatDoor
open Go.RowKit
open Go.Lib (hid)
/-- what the closure finds: its captured variables, and the object so far -/
def ObjInv (w : World) (R deep : Nat) (p : J.T × List ByteArray) (W : World) : Prop :=
  W.heap[w.heap.size]? = some (.cells #[.pointer (some ⟨R, 0, none⟩)] 54 (0, 0)) ∧ W.heap[w.heap.size + 1]? = some (.cells #[.int .i64 deep] 3 (0, 0)) ∧
  ∃ t' : J.T, t'.loose p.1 ∧ VSt (w.heap.size + 3) (w.heap.size + 2) 6 t' p.2 W
/-- is a name among these? -/
theorem contains_any {W : World} {B : Nat} {nv : Value} {ns : List ByteArray} (h : W.ownsRow B 9 1 nv ns.length (ns.map Value.string)) (x : ByteArray) (hl : ns.length ≤ 1000000000000) (U : World) (hU : ∀ b, nv.ownBlock = some b → U.heap[b]? = W.heap[b]?) :
    Calls Tryz.prog 71 #[nv, .string x] U fun e w' => e = .returned (.bool (decide (x.data.toList ∈ ns.map (fun y => y.data.toList)))) ∧ w' = U := by
  have hd : decide (x.data.toList ∈ ns.map (fun y => y.data.toList)) = Lib.containsS ns x := by
    rw [Bool.eq_iff_iff, decide_eq_true_iff, Lib.containsS_iff]
    constructor
    · intro h
      obtain ⟨y, hy, he⟩ := List.mem_map.1 h
      have : y = x := ByteArray.ext (Array.ext' he)
      rw [← this]; exact hy
    · intro h; exact List.mem_map.2 ⟨x, h, rfl⟩
  rw [hd]
  have hc := fun g (hg : nv.ownBlock = some g) => World.ownsRow.cells h hg
  rcases h.2 with ⟨rfl, h0⟩ | ⟨g, cap, cur, rfl, _, hgr, hcap, _⟩
  · have : ns = [] := List.eq_nil_of_length_eq_zero h0
    subst this
    exact Tryz.slices_Contains_string_empty none 0 x U
  · rcases Nat.eq_zero_or_pos ns.length with h0 | h0
    · have : ns = [] := List.eq_nil_of_length_eq_zero h0
      subst this
      exact Tryz.slices_Contains_string_empty _ cap x U
    · have := Tryz.slices_Contains_string g 0 ns.length cap ns x U (Nat.le_refl _) (by omega) (fun j hj => by
        have h1 := hc g rfl j (.string ns[j]) (by rw [List.getElem?_map, List.getElem?_eq_getElem hj]; rfl)
        have e : (⟨g, 0, none⟩ : Addr).add j = ⟨g, j, none⟩ := by cases j <;> simp [Addr.add]
        rw [e] at h1
        rw [Nat.zero_add, World.cell?_of_block (w := W) (hU g rfl), h1]
        simp [List.getD, List.getElem?_eq_getElem hj])
      rw [List.take_of_length_le (Nat.le_refl _)] at this
      exact this
namespace J
def valOn (p : T × List ByteArray) (x : ByteArray) : Res V → Res (T × List ByteArray)
  | .error e => .error e
  | .ok (v, r') => .ok ((p.1.snoc v, p.2 ++ [x]), r')
def objOn (val : List UInt8 → Res V) (p : T × List ByteArray) : Res ByteArray → Res (T × List ByteArray)
  | .error e => .error e
  | .ok (x, r) => valOn p x (val r)
theorem objOn_err (val : List UInt8 → Res V) (p : T × List ByteArray) (e : Nat × Int) : objOn val p (.error e) = .error e := rfl
theorem objOn_ok (val : List UInt8 → Res V) (p : T × List ByteArray) (x : ByteArray) (r : List UInt8) : objOn val p (.ok (x, r)) = valOn p x (val r) := rfl
theorem valOn_err (p : T × List ByteArray) (x : ByteArray) (e : Nat × Int) : valOn p x (.error e) = .error e := rfl
theorem valOn_ok (p : T × List ByteArray) (x : ByteArray) (v : V) (r : List UInt8) : valOn p x (.ok (v, r)) = .ok ((p.1.snoc v, p.2 ++ [x]), r) := rfl
theorem stepO_eq (val : List UInt8 → Res V) (p : T × List ByteArray) (l : List UInt8) : stepO val p l = objOn val p (name p.2 (skip l)) := by
  unfold stepO
  cases name p.2 (skip l) with
  | error e => rfl
  | ok q =>
    rw [show objOn val p (.ok q) = valOn p q.1 (val q.2) from rfl]
    simp only
    cases val q.2 with
    | error e => rfl
    | ok u => rfl
theorem name_err {ns : List ByteArray} {l : List UInt8} {e : Nat × Int} (h : text l = .error e) : name ns l = .error e := by unfold name; rw [h]
theorem name_twice {ns : List ByteArray} {l t r : List UInt8} (h : text l = .ok (t, r)) (hm : t ∈ ns.map (fun x => x.data.toList)) : name ns l = .error (l.length, 6) := by unfold name; rw [h]; simp only; rw [if_pos hm]
theorem name_rest {ns : List ByteArray} {l t r : List UInt8} (h : text l = .ok (t, r)) (hm : ¬ t ∈ ns.map (fun x => x.data.toList)) : name ns l = match skip r with
      | 58 :: l3 => .ok (⟨t.toArray⟩, l3)
      | l3 => .error (l3.length, 4) := by unfold name; rw [h]; exact if_neg hm
theorem name_colon {ns : List ByteArray} {l t r l3 : List UInt8} (h : text l = .ok (t, r)) (hm : ¬ t ∈ ns.map (fun x => x.data.toList)) (hs : skip r = 58 :: l3) : name ns l = .ok (⟨t.toArray⟩, l3) := by
  rw [name_rest h hm, hs]
  rfl
theorem name_none {ns : List ByteArray} {l t r : List UInt8} (h : text l = .ok (t, r)) (hm : ¬ t ∈ ns.map (fun x => x.data.toList)) (hs : ∀ l3, skip r ≠ 58 :: l3) : name ns l = .error ((skip r).length, 4) := by
  rw [name_rest h hm]
  split
  · rename_i l3 e; exact absurd e (hs l3)
  · rfl
end J
end Go.Proofs.YtphjfighamadgaaGreatDoor
