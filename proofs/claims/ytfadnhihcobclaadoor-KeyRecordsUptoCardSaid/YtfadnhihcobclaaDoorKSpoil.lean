/- The walk of the law's spoil. -/
import Derived.Test.YtfadnhihcobclaaDoorKOwnI
import Derived.Test.YtfadnhihcobclaaDoorKLawS
import Derived.Test.YtfadnhihcobclaaDoorRow4
import Derived.Deep.WholeRow
namespace Go.Proofs.YtfadnhihcobclaaDoor
open Go.RowKit
open Go.Lib (hid)
open K
namespace K
/-- the rows in which items lie, and their lists -/
def Items.Shp (w : World) (P : Nat → Prop) : Items → Nat → Nat → Prop
  | .nil, _, _ => True
  | .cons _ _ _ l r, b, o => P b ∧ o % 4 = 0 ∧ (∃ cs T, w.heap[b]? = some (.cells cs T (0, 0)) ∧ o + 3 < cs.size) ∧
      (∃ v, w.cell? ⟨b, o + 3, none⟩ = some v ∧ ((v = .slice none 0 0 ∧ l = .nil) ∨ ∃ b' o' c, v = .slice (some ⟨b', o', none⟩) l.length c ∧ l.Shp w P b' o')) ∧ r.Shp w P b (o + 4)
def Items.Shps (w : World) (P : Nat → Prop) (l : Items) (v : Value) : Prop := (v = .slice none 0 0 ∧ l = .nil) ∨ ∃ b o c, v = .slice (some ⟨b, o, none⟩) l.length c ∧ l.Shp w P b o
theorem Items.Lie.shp {P : Nat → Prop} {w : World} : ∀ (l : Items) (b o : Nat), l.Lie w P b o → l.Shp w P b o
  | .nil, _, _, _ => trivial
  | .cons k n s l r, b, o, ⟨hb, ⟨hm4, cs, T, hrow⟩, h0, h1, h2, ⟨v, h3, hv⟩, hr⟩ => by
    refine ⟨hb, hm4, ⟨cs, T, hrow, ?_⟩, ⟨v, h3, ?_⟩, Items.Lie.shp r b (o + 4) hr⟩
    · rw [cell_of_row _ _ _ _ _ _ hrow] at h3
      exact (Array.getElem?_eq_some_iff.1 h3).1
    · rcases hv with hv | ⟨b', o', c, hv, hl⟩
      · exact Or.inl hv
      · exact Or.inr ⟨b', o', c, hv, Items.Lie.shp l b' o' hl⟩
theorem Items.Lies.shps {P : Nat → Prop} {w : World} {l : Items} {v : Value} (h : l.Lies w P v) : l.Shps w P v := by
  rcases h with h | ⟨b, o, c, hv, hl⟩
  · exact Or.inl h
  · exact Or.inr ⟨b, o, c, hv, Items.Lie.shp l b o hl⟩
/-- numbers alone have been written over, and among P alone -/
structure Sp (P : Nat → Prop) (w w' : World) : Prop where
  os : w'.os = w.os
  tape : w'.tape = w.tape
  output : w'.output = w.output
  size : w'.heap.size = w.heap.size
  far : ∀ k, ¬ P k → w'.heap[k]? = w.heap[k]?
  near : ∀ (k : Nat) (cs : Array Value) (T : TypeId), w.heap[k]? = some (.cells cs T (0, 0)) → ∃ cs' : Array Value, w'.heap[k]? = some (.cells cs' T (0, 0)) ∧ cs'.size = cs.size ∧ ∀ i : Nat, i % 4 ≠ 1 → cs'[i]? = cs[i]?
theorem Sp.refl (P : Nat → Prop) (w : World) : Sp P w w := ⟨rfl, rfl, rfl, rfl, fun _ _ => rfl, fun _ cs _ h => ⟨cs, h, rfl, fun _ _ => rfl⟩⟩
theorem Sp.trans {P : Nat → Prop} {a b c : World} (h : Sp P a b) (k : Sp P b c) : Sp P a c := by
  refine ⟨k.os.trans h.os, k.tape.trans h.tape, k.output.trans h.output, k.size.trans h.size, fun i hi => (k.far i hi).trans (h.far i hi), fun i cs T hc => ?_⟩
  obtain ⟨c1, g1, g2, g3⟩ := h.near i cs T hc
  obtain ⟨c2, g4, g5, g6⟩ := k.near i c1 T g1
  exact ⟨c2, g4, g5.trans g2, fun j hj => (g6 j hj).trans (g3 j hj)⟩
theorem Sp.set {P : Nat → Prop} {w : World} {b o : Nat} {cs : Array Value} {T : TypeId} (hb : P b) (hrow : w.heap[b]? = some (.cells cs T (0, 0))) (ho : o % 4 = 0) (v : Value) : Sp P w (w.setCell ⟨b, o + 1, none⟩ v) := by
  refine ⟨rfl, rfl, rfl, by simp, fun k hk => Below.heap_setCell w ⟨b, o + 1, none⟩ v k (fun e => hk (by rw [e]; exact hb)), fun k c2 T2 hc => ?_⟩
  by_cases e : k = b
  · subst e
    rw [hrow] at hc
    simp only [Option.some.injEq, Obj.cells.injEq, and_true] at hc
    obtain ⟨rfl, rfl⟩ := hc
    refine ⟨_, row_set hrow (o + 1) v, by simp, fun i hi => ?_⟩
    rw [Array.getElem?_setIfInBounds, if_neg (by omega)]
  · exact ⟨c2, by rw [Below.heap_setCell w ⟨b, o + 1, none⟩ v k e]; exact hc, rfl, fun _ _ => rfl⟩
theorem Sp.cell {P : Nat → Prop} {w w' : World} (h : Sp P w w') {b i : Nat} {cs : Array Value} {T : TypeId} (hrow : w.heap[b]? = some (.cells cs T (0, 0))) (hi : i % 4 ≠ 1) : w'.cell? ⟨b, i, none⟩ = w.cell? ⟨b, i, none⟩ := by
  obtain ⟨c1, g1, g2, g3⟩ := h.near b cs T hrow
  rw [cell_of_row _ _ _ _ _ _ g1, cell_of_row _ _ _ _ _ _ hrow, g3 i hi]
theorem Items.Shp.keep {P : Nat → Prop} {w w' : World} (h : Sp P w w') : ∀ (l : Items) (b o : Nat), l.Shp w P b o → l.Shp w' P b o
  | .nil, _, _, _ => trivial
  | .cons k n s l r, b, o, ⟨hb, hm4, ⟨cs, T, hrow, hlt⟩, ⟨v, h3, hv⟩, hr⟩ => by
    obtain ⟨c1, g1, g2, g3⟩ := h.near b cs T hrow
    refine ⟨hb, hm4, ⟨c1, T, g1, by omega⟩, ⟨v, by rw [h.cell hrow (by omega)]; exact h3, ?_⟩, Items.Shp.keep h r b (o + 4) hr⟩
    rcases hv with hv | ⟨b', o', c, hv, hl⟩
    · exact Or.inl hv
    · exact Or.inr ⟨b', o', c, hv, Items.Shp.keep h l b' o' hl⟩
theorem Items.Shps.keep {P : Nat → Prop} {w w' : World} (h : Sp P w w') {l : Items} {v : Value} (hv : l.Shps w P v) : l.Shps w' P v := by
  rcases hv with hv | ⟨b, o, c, hv, hl⟩
  · exact Or.inl hv
  · exact Or.inr ⟨b, o, c, hv, Items.Shp.keep h l b o hl⟩
theorem Items.Shp.drop {w : World} {P : Nat → Prop} {b : Nat} : ∀ (l : Items) (k o : Nat), l.Shp w P b o → (l.drop k).Shp w P b (o + 4 * k)
  | l, 0, o, h => by cases l <;> exact h
  | .nil, _ + 1, _, _ => trivial
  | .cons _ _ _ _ r, k + 1, o, h => by
    have := Items.Shp.drop r k (o + 4) h.2.2.2.2
    rw [show o + 4 * (k + 1) = o + 4 + 4 * k by omega]
    exact this
end K
set_option maxRecDepth 100000 in
set_option maxHeartbeats 8000000 in
theorem spoil_any : ∀ (N : Nat) (l : Items) (_ : l.sz < N) (P : Nat → Prop) (v : Value) (w : World) (_ : l.Shps w P v) (_ : l.room ≤ 10000000000),
    Calls Tryd.prog 27 #[v] w fun e w' => e = .returned (.tuple #[]) ∧ Sp P w w' := by
  intro N
  induction N with
  | zero => intro l hN; omega
  | succ N ih =>
    intro l hN P v w hv hroom
    have IH := hid ih
    clear ih
    have HV := hid hv
    obtain ⟨n, hn⟩ : ∃ n, l.length = n := ⟨_, rfl⟩
    obtain ⟨xa, c, hsv⟩ : ∃ xa c, v = .slice xa n c := by
      rcases hv with ⟨rfl, rfl⟩ | ⟨b, o, c, rfl, _⟩
      · exact ⟨none, 0, by rw [← hn]; rfl⟩
      · exact ⟨_, c, by rw [hn]⟩
    subst hsv
    have hlen : n ≤ 1000000000 := by
      have := K.Items.room_length l
      omega
    have Hn := hid hn
    clear hn hv
    go_enter Tryd.func27, Tryd.ntmps27
    go_wp2_with fail
    go_loopw [2] (fun i wr => ∃ (j : Nat), j ≤ n ∧ i = .int .i64 j ∧ Hid (Sp P w wr)) (fun i _ => n - (intOf i).toNat)
    case atStart => exact ⟨0, by omega, rfl, Sp.refl _ _⟩
    case round =>
      obtain ⟨j, hj, rfl, hS⟩ := hrel
      by_cases hlt : j < n
      · have hl0 : decide ((j : Int) < (n : Int)) = true := by simp; omega
        have hj0 : (0 : Int) ≤ (j : Int) := by omega
        have hj1 : (j : Int) < (n : Int) := by omega
        obtain ⟨k, x, s, m, r, hcons⟩ := K.Items.cons_of_pos (l.drop j) (by rw [K.Items.drop_length]; have := Hn.out; omega)
        rcases HV.out with ⟨e, h0⟩ | ⟨b, o, c', e, hA0⟩
        · have := Hn.out; rw [h0] at this; simp [K.Items.length] at this; omega
        simp only [Value.slice.injEq] at e
        obtain ⟨rfl, hnl, rfl⟩ := e
        clear hnl
        have hsz : m.sz < N := by
          have h1 := K.Items.drop_sz l j
          rw [hcons] at h1
          simp only [K.Items.sz] at h1; omega
        have hml : m.room ≤ 10000000000 := by
          have h1 := K.Items.drop_room l j
          rw [hcons] at h1
          simp only [K.Items.room] at h1; omega
        have hA := K.Items.Shp.drop l j o (K.Items.Shp.keep hS.out l b o hA0)
        rw [hcons] at hA
        obtain ⟨hPb, hm4, ⟨cs, T, hrow, hrl⟩, ⟨mv, a3, hmv⟩, _⟩ := hA
        rw [Nat.mul_comm 4 j] at a3 hrl hm4
        have HM : Hid (m.Shps wr P mv) := hmv
        have HROW := hid hrow
        have HM4 := hid hm4
        have HP := hid hPb
        have HRL := hid hrl
        have cS := IH.out m hsz P mv wr HM.out hml
        clear hcons hA0 hmv hrow hm4 hPb hrl
        go_wp2_with fail
        refine cS.mono ?_
        rintro e w1 ⟨rfl, s1⟩
        have HS1 := hid (hS.out.trans s1)
        obtain ⟨c1, g1, g2, g3⟩ := s1.near b cs T HROW.out
        have HG := hid g1
        have hfr : w1.frozen? ⟨b, o + j * 4 + 1, none⟩ = false := rowFree g1 _
        obtain ⟨u, hc1⟩ : ∃ u, w1.cell? ⟨b, o + j * 4 + 1, none⟩ = some u := ⟨_, by rw [cell_of_row _ _ _ _ _ _ g1]; exact Array.getElem?_eq_getElem (by have := HRL.out; omega)⟩
        have HS2 := hid (HS1.out.trans (Sp.set HP.out HG.out HM4.out (.int .i64 77)))
        clear s1 g1 g2 g3 cS a3 hS
        go_wp2_with fail
        go_roundw
        case rel => exact ⟨j + 1, by omega, by go_num, HS2⟩
        case measure => simp [intOf] <;> omega
      · have hl0 : decide ((j : Int) < (n : Int)) = false := by simp; omega
        go_wp2_with fail
        go_end0
        exact ⟨rfl, hS.out⟩
end Go.Proofs.YtfadnhihcobclaaDoor
