/- Maps by text: as lists of pairs, the newest first; entity. -/
import Derived.Test.YtakplnceiibmlaaGreatDoorMName
import Derived.Maps.Own
import Derived.Maps.OwnOps
import Derived.Maps.OwnSet
import Derived.Maps.Views
import Derived.Carry
namespace Go.Proofs.YtakplnceiibmlaaGreatDoor
open Go.RowKit Go.Maps
open Go.Lib (hid)
namespace X
def lookG {β : Type} : List (List UInt8 × β) → List UInt8 → Option β
  | [], _ => none
  | (a, v) :: r, p => if a = p then some v else lookG r p
theorem lookG_look : ∀ (k : K) (p : List UInt8), lookG k p = look k p
  | [], _ => rfl
  | (a, v) :: r, p => by
    unfold lookG look
    rw [lookG_look r p]
/-- the map that has these pairs, the newest first -/
def mapD {β : Type} (f : β → DataW Unit) : List (List UInt8 × β) → DataW Unit
  | [] => .map []
  | (a, v) :: r => (mapD f r).put (.string a) (f v)
theorem mapD_isMap {β : Type} (f : β → DataW Unit) : ∀ l, IsMap (mapD f l)
  | [] => ⟨[], rfl⟩
  | _ :: r => (mapD_isMap f r).put _ _
theorem isKey (a : List UInt8) : WideAt.IsKeyLit (.string a) := by first | trivial | exact ⟨_, rfl⟩ | simp
theorem mapD_at {β : Type} (f : β → DataW Unit) (z : DataW Unit) (p : List UInt8) : ∀ l, (mapD f l).atKey (.string p) z = (match lookG l p with | some v => f v | none => z)
  | [] => rfl
  | (a, v) :: r => by
    unfold mapD lookG
    by_cases h : a = p
    · subst h; rw [if_pos rfl, atKey_put_same (mapD_isMap f r) (isKey a)]
    · rw [if_neg h, atKey_put_other (by simp; exact fun e => h e.symm), mapD_at f z p r]
theorem mapD_has {β : Type} (f : β → DataW Unit) (p : List UInt8) : ∀ l, has (mapD f l) (.string p) = (lookG l p).isSome
  | [] => rfl
  | (a, v) :: r => by
    unfold mapD lookG
    by_cases h : a = p
    · subst h; rw [if_pos rfl, has_put_same (mapD_isMap f r) (isKey a)]; rfl
    · rw [if_neg h, has_put_other (by simp; exact fun e => h e.symm), mapD_has f p r]
def ents : List (List UInt8 × Int) := [([97, 112, 111, 115], 39), ([113, 117, 111, 116], 34), ([97, 109, 112], 38), ([103, 116], 62), ([108, 116], 60)]
theorem ents_look (l : List UInt8) : lookG ents l = entity l := by
  unfold entity
  by_cases h1 : l = [108, 116]
  · subst h1; rfl
  by_cases h2 : l = [103, 116]
  · subst h2; rfl
  by_cases h3 : l = [97, 109, 112]
  · subst h3; rfl
  by_cases h4 : l = [113, 117, 111, 116]
  · subst h4; rfl
  by_cases h5 : l = [97, 112, 111, 115]
  · subst h5; rfl
  rw [if_neg h1, if_neg h2, if_neg h3, if_neg h4, if_neg h5]
  simp only [ents, lookG]
  rw [if_neg (Ne.symm h5), if_neg (Ne.symm h4), if_neg (Ne.symm h3), if_neg (Ne.symm h2), if_neg (Ne.symm h1)]
end X
theorem lawS : Keyed Tryz.prog 9 := string_keyed Tryz.underlying9
theorem zeroRune (w : World) : (zeroValue 21).run Tryz.prog w = .ok (.int .i32 0) w := by kernel_rfl
theorem zeroStr (w : World) : (zeroValue 9).run Tryz.prog w = .ok (.string ⟨#[]⟩) w := by kernel_rfl
theorem map_below {P : Program} {k : TypeId} {R : Value → Option (DataW Unit × List MemPlace)} {b n : Nat} {D : DataW Unit} {w w' : World} (h : w.ownsMap P k R b n D) (hb : Below w.heap.size w w') : w'.ownsMap P k R b n D :=
  h.kept (row := none) ⟨hb.os, hb.tape, hb.output, hb.size, fun k hk _ => hb.block k hk⟩ (by simp)
theorem keyS {s : ByteArray} (hs : s.size ≤ 1000000000000) : keyOf Tryz.prog 9 (.string s) = some (.string s.data.toList) := Go.WideMaps.keyOf_string_mk Tryz.underlying9 (by unfold maxLen; omega)
def runeD (c : Int) : DataW Unit := .lit (.int .i32 c)
/-- one pair more -/
theorem map_rune {b n : Nat} {D : DataW Unit} {w : World} (h : w.ownsMap Tryz.prog 9 (plainElem Tryz.prog 21) b n D) (hn : n < maxLen) (s : ByteArray) (hs : s.size ≤ 1000000000000) (c : Int) (hc : (Lit.int .i32 c).wf = true) :
    ∃ w', (Instr.mapUpdate 164 (.map (some b)) (.string s) (.int .i32 c)).run Tryz.prog w = .ok () w' ∧ w'.ownsMap Tryz.prog 9 (plainElem Tryz.prog 21) b (n + 1) (D.put (.string s.data.toList) (runeD c)) ∧ w.mapTurned w' b :=
  h.store lawS Tryz.underlying164 hn (keyS hs) (plainElem_int (H := Unit) Tryz.underlying21 hc)
set_option maxRecDepth 100000 in
set_option maxHeartbeats 2000000 in
theorem entity_any (s : ByteArray) (hs : s.size ≤ 1000000000000) (W : World) :
    Calls Tryz.prog 78 #[.string s] W fun en W' => en = .returned (.tuple #[.int .i32 ((X.entity s.data.toList).getD 0), .bool (X.entity s.data.toList).isSome]) ∧ Below W.heap.size W W' := by
  have hmm := @run_makeMap Tryz.prog
  have m0 := World.ownsMap_made (H := Unit) W Tryz.prog 9 (plainElem Tryz.prog 21)
  obtain ⟨w1, u1, m1, t1⟩ := map_rune m0 (by unfold maxLen; omega) ⟨#[108, 116]⟩ (by decide) 60 (by decide)
  obtain ⟨w2, u2, m2, t2⟩ := map_rune m1 (by unfold maxLen; omega) ⟨#[103, 116]⟩ (by decide) 62 (by decide)
  obtain ⟨w3, u3, m3, t3⟩ := map_rune m2 (by unfold maxLen; omega) ⟨#[97, 109, 112]⟩ (by decide) 38 (by decide)
  obtain ⟨w4, u4, m4, t4⟩ := map_rune m3 (by unfold maxLen; omega) ⟨#[113, 117, 111, 116]⟩ (by decide) 34 (by decide)
  obtain ⟨w5, u5, m5, t5⟩ := map_rune m4 (by unfold maxLen; omega) ⟨#[97, 112, 111, 115]⟩ (by decide) 39 (by decide)
  have hD : w5.ownsMap Tryz.prog 9 (plainElem Tryz.prog 21) W.heap.size 5 (X.mapD runeD X.ents) := m5
  obtain ⟨v, ps, hl, hv⟩ := hD.look_ok lawS Tryz.underlying164 (zeroRune w5) (plainElem_int (H := Unit) Tryz.underlying21 (q := .i32) (a := 0) (by decide)) (keyS hs)
  rw [X.mapD_has, X.ents_look] at hl
  rw [X.mapD_at, X.ents_look] at hv
  have hval : v = .int .i32 ((X.entity s.data.toList).getD 0) := by
    obtain ⟨c, rfl, hc, hwc⟩ := plainElem_int_inv Tryz.underlying21 hv
    simp only [Prod.mk.injEq] at hc
    have hc1 := hc.1
    revert hc1
    cases X.entity s.data.toList with
    | none => intro h; simp only [DataW.lit.injEq, Lit.int.injEq] at h; rw [← h.2]; rfl
    | some x => intro h; simp only [runeD, DataW.lit.injEq, Lit.int.injEq] at h; rw [← h.2]; rfl
  subst hval
  obtain ⟨is, his⟩ : ∃ is, (X.entity s.data.toList).isSome = is := ⟨_, rfl⟩
  obtain ⟨c, hc⟩ : ∃ c, (X.entity s.data.toList).getD 0 = c := ⟨_, rfl⟩
  rw [his, hc] at hl ⊢
  have HB : Hid (Below W.heap.size W w5) := by
    show Below _ _ _
    have b0 : Below W.heap.size W (W.alloc (.map #[] 0)) := (Below.refl _ W).alloc (Nat.le_refl _) _
    have hs0 : W.heap.size ≤ (W.alloc (.map #[] 0)).heap.size := b0.size
    have g := (((t1.grown.trans t2.grown).trans t3.grown).trans t4.grown).trans t5.grown
    exact b0.grown g hs0 (fun q hq => by simp at hq; omega)
  clear m0 m1 m2 m3 m4 m5 t1 t2 t3 t4 t5 hD hv his hc hs
  go_enter Tryz.func78, Tryz.ntmps78
  go_wp2_with fail
  go_ret2
  exact ⟨rfl, HB.out⟩
end Go.Proofs.YtakplnceiibmlaaGreatDoor
