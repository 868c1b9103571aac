/- The law MarkupBack: trees handed in; the walk. -/
import Derived.Test.YtakplnceiibmlaaGreatDoorRows
import Derived.Test.YtakplnceiibmlaaGreatDoorMTreeA
import Derived.Lib.SmallJoins
import Derived.Deep.Slices
import Derived.Deep.Fields
import Derived.SizedLaws
import Derived.OpenShut
import Derived.Carry
import Derived.ProofKit
import Derived.Test.YtakplnceiibmlaaGreatDoorMMadeQ
import Derived.Test.YtakplnceiibmlaaGreatDoorMAwake
import Derived.Test.YtakplnceiibmlaaGreatDoorMEnvD
import Derived.Deep.CutRange
namespace Go.Proofs.YtakplnceiibmlaaGreatDoor
open Go.Joins Go.ChangeShapes Go.WideShapes Go.RowKit Go.Deep
theorem laidOut : laidOutB Tryz.prog = true := by kernel_rfl
theorem cellsSay : Tryz.prog.cellsOf 69 = 3 := by kernel_rfl
theorem cellsTree : Tryz.prog.cellsOf 43 = 5 := by kernel_rfl
theorem cellsStr : Tryz.prog.cellsOf 9 = 1 := by kernel_rfl
theorem list_ofB {α : Type} (Q : Nat → α → Prop) : ∀ (n : Nat), (∀ i, i < n → ∃ x, Q i x) → ∃ l : List α, l.length = n ∧ ∀ i x, l[i]? = some x → Q i x
  | 0, _ => ⟨[], rfl, fun i x h => by simp at h⟩
  | n + 1, h => by
    obtain ⟨l, h1, h2⟩ := list_ofB Q n (fun i hi => h i (by omega))
    obtain ⟨y, hy⟩ := h n (by omega)
    refine ⟨l ++ [y], by simp [h1], fun i x hi => ?_⟩
    by_cases hl : i < l.length
    · rw [List.getElem?_append_left hl] at hi; exact h2 i x hi
    · rw [List.getElem?_append_right (by omega)] at hi
      have : i - l.length = 0 := by
        rcases Nat.eq_zero_or_pos (i - l.length) with e | e
        · exact e
        · rw [List.getElem?_eq_none (by simp; omega)] at hi; cases hi
      rw [this] at hi
      simp at hi
      subst hi
      rw [show i = n by omega]; exact hy
theorem add_spot {b o i j : Nat} : ((⟨b, o, none⟩ : Addr).add i).add j = ⟨b, o + i + j, none⟩ := by
  cases i <;> cases j <;> simp [Addr.add] <;> omega
theorem bulk_mem {H : Type} (D : Nat → DataW H) (len i : Nat) (h : i < len) : Rows.uptoBulk (D i) ≤ Rows.uptoBulkAll ((List.range len).map D) := by
  have gen : ∀ (l : List (DataW H)) (d : DataW H), d ∈ l → Rows.uptoBulk d ≤ Rows.uptoBulkAll l := by
    intro l
    induction l with
    | nil => intro d h; cases h
    | cons e r ih =>
      intro d h
      simp only [Rows.uptoBulkAll]
      rcases List.mem_cons.1 h with rfl | h
      · omega
      · have := ih d h; omega
  exact gen _ _ (List.mem_map.2 ⟨i, List.mem_range.2 h, rfl⟩)
theorem saysC_split : ∀ (l : List X.Say) (j : Nat) (u : Value), (X.saysC l)[j]? = some u → ∃ x, l[j / 3]? = some x ∧ (X.sayC x)[j % 3]? = some u
  | [], j, u, h => by simp [X.saysC] at h
  | x :: r, j, u, h => by
    unfold X.saysC at h
    rw [List.flatMap_cons] at h
    by_cases hj : j < 3
    · refine ⟨x, by rw [show j / 3 = 0 by omega]; rfl, ?_⟩
      rw [show j % 3 = j by omega]
      rw [List.getElem?_append_left (by simp [X.sayC]; omega)] at h
      exact h
    · rw [List.getElem?_append_right (by simp [X.sayC]; omega)] at h
      obtain ⟨q, h1, h2⟩ := saysC_split r (j - 3) u (by simpa [X.sayC, X.saysC] using h)
      refine ⟨q, ?_, ?_⟩
      · rw [show j / 3 = (j - 3) / 3 + 1 by omega, List.getElem?_cons_succ]; exact h1
      · rw [show j % 3 = (j - 3) % 3 by omega]; exact h2
section
variable {H : Type} {enc : TypeId × Value → H} {w : World} {base : Nat} {sp : Nat → Bool} {held : Bool}
theorem trod_struct5 {P : Program} {t : TypeId} {f0 f1 f2 f3 f4 : Field} {fuel : Nat} {cs : List Value} {x : DataW H × List MemPlace} (ht : P.underlying t = some (.struct #[f0, f1, f2, f3, f4])) (h : DataW.trod enc P w base sp held fuel t cs = some x) :
    ∃ y0 y1 y2 y3 y4 n, x.1 = .agg [y0.1, y1.1, y2.1, y3.1, y4.1] ∧ cs.length = P.cellsOf t ∧ DataW.trod enc P w base sp held n f0.type ((cs.drop f0.offset).take (P.cellsOf f0.type)) = some y0 ∧
      DataW.trod enc P w base sp held n f1.type ((cs.drop f1.offset).take (P.cellsOf f1.type)) = some y1 ∧ DataW.trod enc P w base sp held n f2.type ((cs.drop f2.offset).take (P.cellsOf f2.type)) = some y2 ∧
      DataW.trod enc P w base sp held n f3.type ((cs.drop f3.offset).take (P.cellsOf f3.type)) = some y3 ∧ DataW.trod enc P w base sp held n f4.type ((cs.drop f4.offset).take (P.cellsOf f4.type)) = some y4 := by
  obtain ⟨xs, n, _, rfl, hl, hlen, hf⟩ := DataW.trod_struct ht h
  match xs, hlen with
  | [y0, y1, y2, y3, y4], _ => exact ⟨y0, y1, y2, y3, y4, n, by simp, hl, by simpa using hf 0 f0 rfl, by simpa using hf 1 f1 rfl, by simpa using hf 2 f2 rfl, by simpa using hf 3 f3 rfl, by simpa using hf 4 f4 rfl⟩
set_option maxRecDepth 100000 in
theorem open_texts {fuel : Nat} {cs : List Value} {x : DataW H × List MemPlace} (hf : DataW.trod enc Tryz.prog w base sp held fuel 40 cs = some x) (hb : Rows.uptoBulk x.1 ≤ 1048576) :
    ∃ (l : List ByteArray) (v : Value), cs = [v] ∧ X.CIn w (fun b => b < w.heap.size) l.length (X.strC l) v ∧ (∀ s ∈ l, s.size ≤ 1048576) ∧ l.length ≤ 9223372036854775807 := by
  rcases open_slice Tryz.underlying40 hf with ⟨rfl, rfl⟩ | ⟨a, len, cap, m, n', D, Pl, rfl, _, hl, hm, hmm, rfl, hi⟩
  · exact ⟨[], _, rfl, Or.inl ⟨rfl, none, 0, rfl, fun _ => rfl⟩, (fun _ h => by cases h), by simp⟩
  · have hml : len ≤ 9223372036854775807 := by have : maxLen = 9223372036854775807 := rfl; omega
    have hlm : len ≤ m := by rw [hmm]; split <;> omega
    simp only [Rows.uptoBulk] at hb
    obtain ⟨ns, h1, h2⟩ := list_ofB (fun i (s : ByteArray) => s.size ≤ 1048576 ∧ w.cell? (a.add i) = some (.string s)) len (fun i hin => by
      obtain ⟨cs', hc, ht⟩ := hi i (by omega)
      rw [cellsStr] at hc
      obtain ⟨_, hlen, hat⟩ := World.cells?_some hc
      obtain ⟨s, rfl, hx, _⟩ := DataW.trod_string Tryz.underlying9 ht
      have h0 := hat 0 (by omega)
      rw [Nat.mul_one] at h0
      have hD : D i = .lit (.string s.data.toList) := congrArg Prod.fst hx
      have hbm := bulk_mem D len i hin
      rw [hD] at hbm
      simp only [Rows.uptoBulk] at hbm
      have e : s.data.toList.length = s.size := Array.length_toList
      exact ⟨s, by omega, by simpa [Addr.add] using h0⟩)
    refine ⟨ns, _, rfl, ?_, fun s hs => ?_, by omega⟩
    · subst h1
      rcases Nat.eq_zero_or_pos ns.length with h0 | h0
      · rw [h0]
        exact Or.inl ⟨rfl, _, cap, rfl, fun h => by cases h⟩
      · obtain ⟨g, o, spot⟩ := a
        have hc0 := (h2 0 _ (List.getElem?_eq_getElem h0)).2
        have hspot : spot = none := by simpa [Addr.add] using World.cell?_spot hc0
        subst hspot
        refine Or.inr ⟨h0, g, o, cap, rfl, Lib.lt_of_cell hc0, hl, fun j u hj => ?_⟩
        unfold X.strC at hj
        rw [List.getElem?_map] at hj
        obtain ⟨s, hs, rfl⟩ := Option.map_eq_some_iff.1 hj
        have := (h2 j s hs).2
        have e : (⟨g, o, none⟩ : Addr).add j = ⟨g, o + j, none⟩ := by cases j <;> simp [Addr.add]
        rw [e] at this
        exact this
    · obtain ⟨i, hi', rfl⟩ := List.mem_iff_getElem.1 hs
      exact (h2 i _ (List.getElem?_eq_getElem hi')).1
set_option maxRecDepth 100000 in
theorem open_says {fuel : Nat} {cs : List Value} {x : DataW H × List MemPlace} (hf : DataW.trod enc Tryz.prog w base sp held fuel 39 cs = some x) (hb : Rows.uptoBulk x.1 ≤ 1048576) :
    ∃ (l : List X.Say) (v : Value), cs = [v] ∧ X.CIn w (fun b => b < w.heap.size) l.length (X.saysC l) v ∧ (∀ x ∈ l, X.sayW x) ∧ l.length ≤ 9223372036854775807 := by
  rcases open_slice Tryz.underlying39 hf with ⟨rfl, rfl⟩ | ⟨a, len, cap, m, n', D, Pl, rfl, _, hl, hm, hmm, rfl, hi⟩
  · exact ⟨[], _, rfl, Or.inl ⟨rfl, none, 0, rfl, fun _ => rfl⟩, (fun _ h => by cases h), by simp⟩
  · have hml : len ≤ 9223372036854775807 := by have : maxLen = 9223372036854775807 := rfl; omega
    have hlm : len ≤ m := by rw [hmm]; split <;> omega
    simp only [Rows.uptoBulk] at hb
    obtain ⟨ns, h1, h2⟩ := list_ofB (fun i (s : X.Say) => X.sayW s ∧ ∀ j u, (X.sayC s)[j]? = some u → w.cell? (a.add (i * 3 + j)) = some u) len (fun i hin => by
      obtain ⟨cs', hc, ht⟩ := hi i (by omega)
      rw [cellsSay] at hc
      obtain ⟨_, hlen, hat⟩ := World.cells?_some hc
      match cs', hlen with
      | [c0, c1, c2], _ =>
        obtain ⟨y0, y1, y2, n2, hy, _, t0, t1, t2⟩ := trod_struct3 Tryz.underlying69 ht
        have k0 : Tryz.prog.cellsOf 5 = 1 := by kernel_rfl
        have k2 : Tryz.prog.cellsOf 9 = 1 := by kernel_rfl
        obtain ⟨x0, e0, rfl, w0⟩ := DataW.trod_int Tryz.underlying5 t0
        obtain ⟨x1, e1, rfl, w1⟩ := DataW.trod_int Tryz.underlying5 t1
        obtain ⟨x2, e2, rfl, w2⟩ := DataW.trod_string Tryz.underlying9 t2
        simp only [Prod.mk.injEq] at hy
        have f0 : c0 = .int .u8 x0 := by simpa [k0] using e0
        have f1 : c1 = .int .u8 x1 := by simpa [k0] using e1
        have f2 : c2 = .string x2 := by simpa [k2] using e2
        subst f0 f1 f2
        have hbm := bulk_mem D len i hin
        rw [hy.1] at hbm
        simp only [Rows.uptoBulk, Rows.uptoBulkAll] at hbm
        have e : x2.data.toList.length = x2.size := Array.length_toList
        have b0 := bounds_u8 w0
        have b1 := bounds_u8 w1
        refine ⟨⟨x0.toNat, x1.toNat, x2⟩, (show x0.toNat ≤ 255 ∧ x1.toNat ≤ 255 ∧ x2.size ≤ 1048576 from ⟨by omega, by omega, by omega⟩), fun j u hj => ?_⟩
        have hj3 : j < 3 := (List.getElem?_eq_some_iff.1 hj).1
        rw [← Go.Deep.add_add, hat j hj3]
        unfold X.sayC at hj
        simp only at hj
        rw [Int.toNat_of_nonneg b0.1, Int.toNat_of_nonneg b1.1] at hj
        exact hj)
    refine ⟨ns, _, rfl, ?_, fun s hs => ?_, by omega⟩
    · subst h1
      rcases Nat.eq_zero_or_pos ns.length with h0 | h0
      · rw [h0]
        exact Or.inl ⟨rfl, _, cap, rfl, fun h => by cases h⟩
      · obtain ⟨g, o, spot⟩ := a
        have hc0 := (h2 0 _ (List.getElem?_eq_getElem h0)).2 0 _ rfl
        have hspot : spot = none := by simpa [Addr.add] using World.cell?_spot hc0
        subst hspot
        refine Or.inr ⟨h0, g, o, cap, rfl, Lib.lt_of_cell hc0, hl, fun j u hj => ?_⟩
        obtain ⟨s, hs, hu⟩ := saysC_split ns j u hj
        have := (h2 _ s hs).2 _ u hu
        rw [show j / 3 * 3 + j % 3 = j by omega] at this
        have e : (⟨g, o, none⟩ : Addr).add j = ⟨g, o + j, none⟩ := by cases j <;> simp [Addr.add]
        rw [e] at this
        exact this
    · obtain ⟨i, hi', rfl⟩ := List.mem_iff_getElem.1 hs
      exact (h2 i _ (List.getElem?_eq_getElem hi')).1
set_option maxRecDepth 100000 in
theorem open_treesF : ∀ (N fuel : Nat) (cs : List Value) (x : DataW H × List MemPlace), DataW.trod enc Tryz.prog w base sp held fuel 41 cs = some x → Rows.uptoBulk x.1 < N → Rows.uptoBulk x.1 ≤ 1048576 →
    ∃ (t : X.WT) (v : Value), cs = [v] ∧ t.In w (fun b => b < w.heap.size) v ∧ t.wide ∧ t.lens ∧ t.length ≤ 9223372036854775807 := by
  intro N
  induction N with
  | zero => intro fuel cs x _ h; omega
  | succ N ih =>
    intro fuel cs x hf hN hbig
    rcases open_slice Tryz.underlying41 hf with ⟨rfl, rfl⟩ | ⟨a, len, cap, m, n', D, Pl, rfl, hb, hl, hm, hmm, rfl, hi⟩
    · exact ⟨.nil, _, rfl, Or.inl ⟨rfl, none, 0, rfl, fun _ => rfl⟩, trivial, trivial, by simp [X.WT.length]⟩
    · have hml : len ≤ 9223372036854775807 := by have : maxLen = 9223372036854775807 := rfl; omega
      have hlm : len ≤ m := by rw [hmm]; split <;> omega
      simp only [Rows.uptoBulk] at hN hbig
      obtain ⟨b, o, spot⟩ := a
      rcases Nat.eq_zero_or_pos len with rfl | h0
      · exact ⟨.nil, _, rfl, Or.inl ⟨rfl, _, cap, rfl, fun h => by cases h⟩, trivial, trivial, by simp [X.WT.length]⟩
      have hspot : spot = none := by
        obtain ⟨cs', hc, ht⟩ := hi 0 (by omega)
        rw [cellsTree] at hc
        obtain ⟨_, hlen, hat⟩ := World.cells?_some hc
        match cs', hlen with
        | [c0, c1, c2, c3, c4], _ =>
          have hat0 := hat 0 (by decide)
          rw [Nat.zero_mul] at hat0
          have := World.cell?_spot hat0
          simpa [Addr.add] using this
      subst hspot
      have build : ∀ (c i : Nat), i + c = len → (∃ l : X.WT, l.length = c ∧ l.At w (fun b => b < w.heap.size) b (o + 5 * i) ∧ l.wide ∧ l.lens) := by
        intro c
        induction c with
        | zero => intro i _; exact ⟨.nil, rfl, trivial, trivial, trivial⟩
        | succ c ihc =>
          intro i hic
          obtain ⟨cs', hc, ht⟩ := hi i (by omega)
          rw [cellsTree] at hc
          obtain ⟨_, hlen, hat⟩ := World.cells?_some hc
          match cs', hlen with
          | [c0, c1, c2, c3, c4], _ =>
            obtain ⟨y0, y1, y2, y3, y4, n2, hy, _, t0, t1, t2, t3, t4⟩ := trod_struct5 Tryz.underlying43 ht
            have k0 : Tryz.prog.cellsOf 5 = 1 := by kernel_rfl
            have k2 : Tryz.prog.cellsOf 39 = 1 := by kernel_rfl
            have k3 : Tryz.prog.cellsOf 40 = 1 := by kernel_rfl
            have k4 : Tryz.prog.cellsOf 41 = 1 := by kernel_rfl
            obtain ⟨x0, e0, rfl, w0⟩ := DataW.trod_int Tryz.underlying5 t0
            obtain ⟨x1, e1, rfl, w1⟩ := DataW.trod_int Tryz.underlying5 t1
            simp only at hy
            have f0 : c0 = .int .u8 x0 := by simpa [k0] using e0
            have f1 : c1 = .int .u8 x1 := by simpa [k0] using e1
            subst f0 f1
            have hmem : Rows.uptoBulk (D i) ≤ Rows.uptoBulkAll ((List.range len).map D) := bulk_mem D len i (by omega)
            rw [hy] at hmem
            simp only [Rows.uptoBulk, Rows.uptoBulkAll] at hmem
            have t2' : DataW.trod enc Tryz.prog w base sp held n2 39 [c2] = some y2 := by simpa [k2] using t2
            have t3' : DataW.trod enc Tryz.prog w base sp held n2 40 [c3] = some y3 := by simpa [k3] using t3
            have t4' : DataW.trod enc Tryz.prog w base sp held n2 41 [c4] = some y4 := by simpa [k4] using t4
            obtain ⟨al, av, ea, hA, hAw, _⟩ := open_says t2' (by omega)
            obtain ⟨tx, tv, et, hT, hTw, _⟩ := open_texts t3' (by omega)
            obtain ⟨ks, kv, ek, hK, hKw, hKl, hKn⟩ := ih n2 [c4] y4 t4' (by omega) (by omega)
            obtain rfl : c2 = av := by simpa using ea
            obtain rfl : c3 = tv := by simpa using et
            obtain rfl : c4 = kv := by simpa using ek
            obtain ⟨r, g1, g2, g3, g4⟩ := ihc (i + 1) (by omega)
            have b0 := bounds_u8 w0
            have b1 := bounds_u8 w1
            have hcell : ∀ j u, ([Value.int .u8 x0, .int .u8 x1, c2, c3, c4] : List Value)[j]? = some u → w.cell? ⟨b, o + 5 * i + j, none⟩ = some u := fun j u hj => by
              have hj5 : j < 5 := (List.getElem?_eq_some_iff.1 hj).1
              have := hat j hj5
              rw [add_spot, show o + i * 5 + j = o + 5 * i + j by omega] at this
              exact this.trans hj
            refine ⟨.cons x0.toNat x1.toNat al tx ks r, by simp only [X.WT.length, g1], ⟨World.block_lt_of_cell? w ⟨b, o + 5 * i, none⟩ (hcell 0 _ rfl), ?_, ?_, ⟨c2, hcell 2 _ rfl, hA⟩, ⟨c3, hcell 3 _ rfl, hT⟩, ⟨c4, hcell 4 _ rfl, ?_⟩, ?_⟩, ⟨⟨by omega, by omega, hAw, hTw, hKw⟩, g3⟩, ⟨⟨hKn, hKl⟩, g4⟩⟩
            · rw [Int.toNat_of_nonneg b0.1]; exact hcell 0 _ rfl
            · rw [Int.toNat_of_nonneg b1.1]; exact hcell 1 _ rfl
            · exact hK
            · rw [show o + 5 * i + 5 = o + 5 * (i + 1) by omega]; exact g2
      obtain ⟨l, g1, g2, g3, g4⟩ := build len 0 (by omega)
      exact ⟨l, _, rfl, Or.inr ⟨b, o, cap, by rw [g1], by omega, by omega, g2⟩, g3, g4, by omega⟩
set_option maxRecDepth 100000 in
theorem open_tree {r : Reach} {b0 : Nat} {v : Value} {d : DataW H} {p : List MemPlace} (hv : Value.okWide Tryz.prog w r b0 43 v) (h : DataW.Trod enc Tryz.prog w base sp held 43 v d p) (hb : Rows.uptoBulk d ≤ 1048576) :
    ∃ (sp lo : Nat) (al : List X.Say) (tx : List ByteArray) (ks : X.WT) (cs : List Value), v = .agg cs.toArray ∧ X.treeHas w (fun b => b < w.heap.size) sp lo al tx ks cs ∧ (X.WT.cons sp lo al tx ks .nil).wide ∧ (X.WT.cons sp lo al tx ks .nil).lens := by
  obtain ⟨cs, rfl, hsz⟩ := okWide_struct Tryz.underlying43 hv
  rw [cellsTree] at hsz
  obtain ⟨fuel, hf⟩ := h
  obtain ⟨y0, y1, y2, y3, y4, n2, hy, _, t0, t1, t2, t3, t4⟩ := trod_struct5 Tryz.underlying43 hf
  obtain ⟨c0, c1, c2, c3, c4, rfl⟩ : ∃ c0 c1 c2 c3 c4, cs = #[c0, c1, c2, c3, c4] := by
    obtain ⟨l⟩ := cs
    match l, hsz with
    | [c0, c1, c2, c3, c4], _ => exact ⟨c0, c1, c2, c3, c4, rfl⟩
  have k0 : Tryz.prog.cellsOf 5 = 1 := by kernel_rfl
  have k2 : Tryz.prog.cellsOf 39 = 1 := by kernel_rfl
  have k3 : Tryz.prog.cellsOf 40 = 1 := by kernel_rfl
  have k4 : Tryz.prog.cellsOf 41 = 1 := by kernel_rfl
  obtain ⟨x0, e0, rfl, w0⟩ := DataW.trod_int Tryz.underlying5 t0
  obtain ⟨x1, e1, rfl, w1⟩ := DataW.trod_int Tryz.underlying5 t1
  simp only at hy
  have f0 : c0 = .int .u8 x0 := by simpa [k0, Value.cells] using e0
  have f1 : c1 = .int .u8 x1 := by simpa [k0, Value.cells] using e1
  subst f0 f1
  rw [hy] at hb
  simp only [Rows.uptoBulk, Rows.uptoBulkAll] at hb
  have t2' : DataW.trod enc Tryz.prog w base sp held n2 39 [c2] = some y2 := by simpa [k2, Value.cells] using t2
  have t3' : DataW.trod enc Tryz.prog w base sp held n2 40 [c3] = some y3 := by simpa [k3, Value.cells] using t3
  have t4' : DataW.trod enc Tryz.prog w base sp held n2 41 [c4] = some y4 := by simpa [k4, Value.cells] using t4
  obtain ⟨al, av, ea, hA, hAw, _⟩ := open_says t2' (by omega)
  obtain ⟨tx, tv, et, hT, hTw, _⟩ := open_texts t3' (by omega)
  obtain ⟨ks, kv, ek, hK, hKw, hKl, hKn⟩ := open_treesF (Rows.uptoBulk y4.1 + 1) n2 [c4] y4 t4' (Nat.lt_succ_self _) (by omega)
  obtain rfl : c2 = av := by simpa using ea
  obtain rfl : c3 = tv := by simpa using et
  obtain rfl : c4 = kv := by simpa using ek
  have b0 := bounds_u8 w0
  have b1 := bounds_u8 w1
  refine ⟨x0.toNat, x1.toNat, al, tx, ks, [.int .u8 x0, .int .u8 x1, c2, c3, c4], rfl, ⟨c2, c3, c4, ?_, hA, hT, hK⟩, ⟨⟨by omega, by omega, hAw, hTw, hKw⟩, trivial⟩, ⟨⟨hKn, hKl⟩, trivial⟩⟩
  rw [Int.toNat_of_nonneg b0.1, Int.toNat_of_nonneg b1.1]
end
end Go.Proofs.YtakplnceiibmlaaGreatDoor
namespace Go.Proofs.YtakplnceiibmlaaGreatDoor
open Go.RowKit
open Go.Lib (hid)
theorem made_any (sp lo : Nat) (al : List X.Say) (tx : List ByteArray) (ks : X.WT) : MadeC sp lo al tx ks := made_step sp lo al tx ks (X.WT.allE_of made_step ks)
def pre1 : List (List UInt8) := [[], [112], [113], [114]]
def pre2 : List (List UInt8) := [[], [113], [114], [120, 46, 112, 45, 49]]
theorem part_of (w : List UInt8) (h : (match w with
  | [] => false
  | c :: r => X.letter c && r.all X.other && decide (w.length ≤ 32)) = true) : X.Part w := by
  match w, h with
  | c :: r, h =>
    simp only [Bool.and_eq_true, decide_eq_true_eq, List.all_eq_true] at h
    exact ⟨c, r, rfl, h.1.1, h.1.2, h.2⟩
theorem pre1_pre : X.Pre pre1 := by
  refine ⟨rfl, fun i h1 h4 => ?_, fun i j hi hj h => ?_, fun i h1 h4 => ?_⟩
  · have : i = 1 ∨ i = 2 ∨ i = 3 := by omega
    rcases this with rfl | rfl | rfl <;> exact part_of _ (by decide)
  · have hi' : i = 0 ∨ i = 1 ∨ i = 2 ∨ i = 3 := by omega
    have hj' : j = 0 ∨ j = 1 ∨ j = 2 ∨ j = 3 := by omega
    rcases hi' with rfl | rfl | rfl | rfl <;> rcases hj' with rfl | rfl | rfl | rfl <;> first | rfl | (revert h; decide)
  · have : i = 1 ∨ i = 2 ∨ i = 3 := by omega
    rcases this with rfl | rfl | rfl <;> decide
theorem pre2_pre : X.Pre pre2 := by
  refine ⟨rfl, fun i h1 h4 => ?_, fun i j hi hj h => ?_, fun i h1 h4 => ?_⟩
  · have : i = 1 ∨ i = 2 ∨ i = 3 := by omega
    rcases this with rfl | rfl | rfl <;> exact part_of _ (by decide)
  · have hi' : i = 0 ∨ i = 1 ∨ i = 2 ∨ i = 3 := by omega
    have hj' : j = 0 ∨ j = 1 ∨ j = 2 ∨ j = 3 := by omega
    rcases hi' with rfl | rfl | rfl | rfl <;> rcases hj' with rfl | rfl | rfl | rfl <;> first | rfl | (revert h; decide)
  · have : i = 1 ∨ i = 2 ∨ i = 3 := by omega
    rcases this with rfl | rfl | rfl <;> decide
/-- the tree in its box -/
structure BX (W : World) (TR : Array Value) (w : World) : Prop where
  t : w.heap[W.heap.size]? = some (.cells TR 43 (0, 0))
  b : Below W.heap.size W w
theorem BX.below {W w w' : World} {TR : Array Value} (h : BX W TR w) (hb : Below w.heap.size w w') : BX W TR w' :=
  ⟨by rw [hb.block _ (Go.lt_of_block h.t)]; exact h.t, h.b.trans (hb.mono h.b.size)⟩
/-- an element in a box -/
structure BN (x : X.E) (B : Nat) (cs : List Value) (w : World) : Prop where
  r : w.heap[B]? = some (.cells cs.toArray 28 (0, 0))
  h : x.Has w (fun b => b < w.heap.size) cs
theorem BN.below {x : X.E} {B : Nat} {cs : List Value} {w w' : World} (h : BN x B cs w) (hb : Below w.heap.size w w') : BN x B cs w' :=
  ⟨by rw [hb.block _ (Go.lt_of_block h.r)]; exact h.r, h.h.keep (fun b hb' => Nat.lt_of_lt_of_le hb' hb.size) (fun b hb' => hb.block b hb')⟩
theorem BN.mk' {x : X.E} {cs : List Value} {w : World} {B0 : Nat} (h : x.Has w (OwnN w B0 none) cs) : BN x w.heap.size cs (w.alloc (.cells cs.toArray 28)) :=
  ⟨heap_alloc_new w _, h.keep (fun b hb => by have := hb.2.1; simp; omega) (fun b hb => ((Below.refl w.heap.size w).alloc (Nat.le_refl _) (.cells cs.toArray 28)).block b hb.2.1)⟩
set_option maxRecDepth 100000 in
set_option maxHeartbeats 8000000 in
theorem back_walk (sp lo : Nat) (al : List X.Say) (tx : List ByteArray) (ks : X.WT) (cs : List Value) (bl : Int) (W : World) (hhas : X.treeHas W (fun b => b < W.heap.size) sp lo al tx ks cs) (hwide : (X.WT.cons sp lo al tx ks .nil).wide) (hlens : (X.WT.cons sp lo al tx ks .nil).lens) (hbl : 0 ≤ bl ∧ bl ≤ 255) (hE : EnvM W) :
    Calls Tryz.prog 5 #[.agg cs.toArray, .int .u8 bl] W fun e w' => e = .returned (.bool true) ∧ Below W.heap.size W w' := by
  obtain ⟨av, tv, kv, rfl, hav, htv, hkv⟩ := hhas
  obtain ⟨aa, ac, rfl⟩ := hav.shape
  obtain ⟨ta, tc, rfl⟩ := htv.shape
  obtain ⟨ka, kc, rfl⟩ := hkv.shape
  have HHAS : Hid (X.treeHas W (fun b => b < W.heap.size) sp lo al tx ks [.int .u8 sp, .int .u8 lo, .slice aa al.length ac, .slice ta tx.length tc, .slice ka ks.length kc]) := hid ⟨_, _, _, rfl, hav, htv, hkv⟩
  obtain ⟨nal, hnal⟩ : ∃ n, al.length = n := ⟨_, rfl⟩
  obtain ⟨ntx, hntx⟩ : ∃ n, tx.length = n := ⟨_, rfl⟩
  obtain ⟨nks, hnks⟩ : ∃ n, ks.length = n := ⟨_, rfl⟩
  rw [hnal, hntx, hnks] at HHAS ⊢
  have HNN := hid (And.intro hnal (And.intro hntx hnks))
  have HWD := hid hwide
  have HLE := hid hlens
  have HEN := hid hE
  have hsp : sp ≤ 255 := hwide.1.1
  have hlo : lo ≤ 255 := hwide.1.2.1
  clear hav htv hkv hwide hlens hE hnal hntx hnks
  obtain ⟨w1, hw1⟩ : ∃ w1, W.alloc (.cells #[.int .u8 sp, .int .u8 lo, .slice aa nal ac, .slice ta ntx tc, .slice ka nks kc] 43) = w1 := ⟨_, rfl⟩
  obtain ⟨H1, hH1⟩ : ∃ H1, w1.heap.size = H1 := ⟨_, rfl⟩
  obtain ⟨w2, hw2⟩ : ∃ w2, w1.alloc (.cells #[.int .u8 sp, .int .u8 lo, .slice aa nal ac, .slice ta ntx tc, .slice ka nks kc] 43) = w2 := ⟨_, rfl⟩
  have HB1 : Hid (BX W #[.int .u8 sp, .int .u8 lo, .slice aa nal ac, .slice ta ntx tc, .slice ka nks kc] w1) := by
    show BX _ _ _
    rw [← hw1]
    exact ⟨heap_alloc_new W _, (Below.refl _ W).alloc (Nat.le_refl _) _⟩
  have HB2 : Hid (BX W #[.int .u8 sp, .int .u8 lo, .slice aa nal ac, .slice ta ntx tc, .slice ka nks kc] w2) := by
    show BX _ _ _
    rw [← hw2]
    exact HB1.out.below ((Below.refl _ w1).alloc (Nat.le_refl _) _)
  have hv2 : w2.heap[H1]? = some (.cells #[.int .u8 sp, .int .u8 lo, .slice aa nal ac, .slice ta ntx tc, .slice ka nks kc] 43 (0, 0)) := by rw [← hw2, ← hH1]; exact heap_alloc_new w1 _
  have hk2 : X.treeHas w2 (fun b => b < w2.heap.size) sp lo al tx ks [.int .u8 sp, .int .u8 lo, .slice aa nal ac, .slice ta ntx tc, .slice ka nks kc] := HHAS.out.keep (fun b hb => Nat.lt_of_lt_of_le hb HB2.out.b.size) (fun b hb => HB2.out.b.block b hb)
  have hin : (X.WT.cons sp lo al tx ks .nil).In w2 (fun b => b < w2.heap.size) (.slice (some ⟨H1, 0, none⟩) 1 1) := by
    obtain ⟨av, tv, kv, he, g1, g2, g3⟩ := hk2
    simp only [List.cons.injEq, and_true, true_and] at he
    obtain ⟨rfl, rfl, rfl⟩ := he
    refine Or.inr ⟨H1, 0, 1, rfl, Nat.le_refl _, Nat.lt_succ_self _, Go.lt_of_block hv2, rowCell hv2 0, rowCell hv2 1, ⟨_, rowCell hv2 2, g1⟩, ⟨_, rowCell hv2 3, g2⟩, ⟨_, rowCell hv2 4, ?_⟩, trivial⟩
    rcases g3 with g3 | ⟨g', o', c, h6, h7, h8, h9⟩
    · exact Or.inl g3
    · exact Or.inr ⟨g', o', c, h6, h7, h8, h9⟩
  have cS := size_any (X.WT.cons sp lo al tx ks .nil) HLE.out 300 0 (by omega) (by omega) (by omega) w2 _ _ hin (by simp [X.WT.length])
  rw [if_neg (show ¬ 30 < 0 by omega)] at cS
  obtain ⟨sz, hsz⟩ : ∃ q, X.szL (X.WT.cons sp lo al tx ks .nil) 300 0 = q := ⟨_, rfl⟩
  rw [hsz] at cS
  have HSZ := hid hsz
  have HW1 := hid hw1
  have HW2 := hid (And.intro hw2 hH1)
  have cA := awake_any w2 (HEN.out.e.keep HB2.out.b) (HEN.out.t.under HB2.out.b)
  obtain ⟨x0, x1, x2, x3, x4⟩ := row5s HB1.out.t
  clear hw1 hw2 hH1 hv2 hk2 hin hsz
  by_cases hneg : sz < 0
  · have t0 : decide (sz < 0) = true := decide_eq_true hneg
    go_enter Tryz.func5, Tryz.ntmps5
    go_upto_region 1 with fail
    rw [HW1.out]
    go_wp2_with fail
    rw [HW2.out.2, HW2.out.1]
    refine cS.mono ?_
    rintro e w3 ⟨rfl, rfl⟩
    go_wp2_with fail
    refine cA.mono ?_
    rintro e w4 ⟨rfl, hb⟩
    have HB4 := hid (HB2.out.below hb)
    clear hb
    go_wp2_with fail
    go_ret
    exact ⟨rfl, HB4.out.b⟩
  have hcnt : (X.WT.cons sp lo al tx ks .nil).count ≤ 300 := by
    have h1 := X.szL_few (X.WT.cons sp lo al tx ks .nil) 300 0 (by rw [HSZ.out]; omega)
    rw [HSZ.out] at h1
    omega
  have HCN : Hid (ks.count ≤ 300) := by
    show _ ≤ _
    simp only [X.WT.count] at hcnt
    omega
  have t0 : decide (sz < 0) = false := decide_eq_false hneg
  obtain ⟨bn, rfl⟩ : ∃ bn : Nat, bl = (bn : Int) := ⟨bl.toNat, by omega⟩
  clear hcnt hneg
  go_enter Tryz.func5, Tryz.ntmps5
  go_upto_region 1 with fail
  rw [HW1.out]
  go_wp2_with fail
  rw [HW2.out.2, HW2.out.1]
  refine cS.mono ?_
  rintro e w3 ⟨rfl, rfl⟩
  go_wp2_with fail
  refine cA.mono ?_
  rintro e w4 ⟨rfl, hb⟩
  have HB4 := hid (HB2.out.below hb)
  clear hb cS cA HB1 HB2 x0 x1 x2 x3 x4 t0
  go_upto_region 3 with fail
  go_cut [5] from 27 to 31 (fun s5 wc => ∃ sep, s5 = .string (X.ba sep) ∧ Hid (X.Blanks sep ∧ sep.length ≤ 3 ∧ BX W #[.int .u8 sp, .int .u8 lo, .slice aa nal ac, .slice ta ntx tc, .slice ka nks kc] wc))
  case first =>
    have hm : ((bn : Int).tmod 4) = ((bn % 4 : Nat) : Int) := rfl
    have hcs : bn % 4 = 0 ∨ bn % 4 = 1 ∨ bn % 4 = 2 ∨ bn % 4 = 3 := by omega
    rcases hcs with h | h | h | h
    all_goals
      rw [h] at hm
      clear h
      go_wp2_with fail
      go_meet
    · exact ⟨[32], rfl, hid ⟨⟨by decide, by decide⟩, by decide, HB4.out.below ((Below.refl _ _).alloc (Nat.le_refl _) _)⟩⟩
    · exact ⟨[10], rfl, hid ⟨⟨by decide, by decide⟩, by decide, HB4.out.below ((Below.refl _ _).alloc (Nat.le_refl _) _)⟩⟩
    · exact ⟨[9, 32], rfl, hid ⟨⟨by decide, by decide⟩, by decide, HB4.out.below ((Below.refl _ _).alloc (Nat.le_refl _) _)⟩⟩
    · exact ⟨[32, 13, 10], rfl, hid ⟨⟨by decide, by decide⟩, by decide, HB4.out.below ((Below.refl _ _).alloc (Nat.le_refl _) _)⟩⟩
  case rest =>
    obtain ⟨sep, rfl, HSP⟩ := hcut
    clear HB4
    have HB5 := hid HSP.out.2.2
    obtain ⟨x0, x1, x2, x3, x4⟩ := row5s HB5.out.t
    obtain ⟨w6, hw6⟩ : ∃ w6, wc.alloc (.cells #[.string ⟨#[]⟩, .string ⟨#[112]⟩, .string ⟨#[113]⟩, .string ⟨#[114]⟩] 9) = w6 := ⟨_, rfl⟩
    obtain ⟨G, hG⟩ : ∃ G, wc.heap.size = G := ⟨_, rfl⟩
    have hb6 : Below wc.heap.size wc w6 := by rw [← hw6]; exact (Below.refl _ wc).alloc (Nat.le_refl _) _
    have hr6 : w6.heap[G]? = some (.cells #[.string ⟨#[]⟩, .string ⟨#[112]⟩, .string ⟨#[113]⟩, .string ⟨#[114]⟩] 9 (0, 0)) := by rw [← hw6, ← hG]; exact heap_alloc_new wc _
    have HB6 := hid (HB5.out.below hb6)
    have cM := made_any sp lo al tx ks HWD.out HCN.out 0 (by omega) pre1 sep pre1_pre HSP.out.2.1 w6 (fun b => b < W.heap.size) _ G 0 4 (HHAS.out.keep (fun _ h => h) (fun b hb => HB6.out.b.block b hb)) (fun b hb => Nat.lt_of_lt_of_le hb HB6.out.b.size) (Nat.le_refl _) (fun i hi => by
      have h4 : i = 0 ∨ i = 1 ∨ i = 2 ∨ i = 3 := by omega
      rw [Nat.zero_add]
      rcases h4 with rfl | rfl | rfl | rfl <;> exact rowCell hr6 _) (HEN.out.t.under HB6.out.b)
    rw [show ((0 : Nat) : Int) = 0 from rfl] at cM
    have HW6 := hid (And.intro hw6 hG)
    have HCM := hid cM
    clear hw6 hG hb6 hr6 cM
    go_wp2_with fail
    rw [HW6.out.2, HW6.out.1]
    refine HCM.out.mono ?_
    clear HCM HW6 x0 x1 x2 x3 x4 HB5
    rintro e w7 ⟨hb7, ⟨htok, cs8, rfl, hhas⟩ | ⟨htbad, bx, bx2, bx3, ba1, bn1, bc1, ba2, bn2, bc2, rfl⟩⟩
    · obtain ⟨av8, kv8, rfl, hav8, hkv8⟩ := hhas
      obtain ⟨a1, c1, rfl⟩ := hav8.shape
      obtain ⟨a2, c2, rfl⟩ := hkv8.shape
      have hh7 : (X.nodeT 0 sp lo al tx ks).Has w7 (OwnN w7 w6.heap.size none) [.string (X.nodeT 0 sp lo al tx ks).sp, .string (X.nodeT 0 sp lo al tx ks).lo, .slice a1 (X.E.as (X.nodeT 0 sp lo al tx ks)).length c1, .slice a2 (X.nodeT 0 sp lo al tx ks).ks.length c2, .string (X.nodeT 0 sp lo al tx ks).tx, .int .i64 ((X.nodeT 0 sp lo al tx ks).ln : Nat), .int .i64 ((X.nodeT 0 sp lo al tx ks).cl : Nat)] := ⟨_, _, rfl, hav8, hkv8⟩
      obtain ⟨sa, hsa⟩ : ∃ q, (X.nodeT 0 sp lo al tx ks).sp = q := ⟨_, rfl⟩
      obtain ⟨sl, hsl⟩ : ∃ q, (X.nodeT 0 sp lo al tx ks).lo = q := ⟨_, rfl⟩
      obtain ⟨n1, hn1⟩ : ∃ q, (X.E.as (X.nodeT 0 sp lo al tx ks)).length = q := ⟨_, rfl⟩
      obtain ⟨n2, hn2⟩ : ∃ q, (X.nodeT 0 sp lo al tx ks).ks.length = q := ⟨_, rfl⟩
      obtain ⟨st, hst⟩ : ∃ q, (X.nodeT 0 sp lo al tx ks).tx = q := ⟨_, rfl⟩
      rw [hsa, hsl, hn1, hn2, hst, show (X.nodeT 0 sp lo al tx ks).ln = 0 from rfl, show (X.nodeT 0 sp lo al tx ks).cl = 0 from rfl] at hh7 ⊢
      obtain ⟨b1, hb1⟩ : ∃ b, X.ba (X.elemT pre1 sep 0 sp lo al tx ks) = b := ⟨_, rfl⟩
      rw [hb1]
      have HBB := hid hb1
      clear hav8 hkv8 hsa hsl hn1 hn2 hst hb1
      obtain ⟨V6, hV6⟩ : ∃ V, w7.heap.size = V := ⟨_, rfl⟩
      obtain ⟨w8, hw8⟩ : ∃ w8, w7.alloc (.cells #[.string sa, .string sl, .slice a1 n1 c1, .slice a2 n2 c2, .string st, .int .i64 0, .int .i64 0] 28) = w8 := ⟨_, rfl⟩
      have hb8 : Below w7.heap.size w7 w8 := by rw [← hw8]; exact (Below.refl _ w7).alloc (Nat.le_refl _) _
      obtain ⟨w9, hw9⟩ : ∃ w9, w8.alloc (.cells #[.string ⟨#[]⟩, .string ⟨#[113]⟩, .string ⟨#[114]⟩, .string ⟨#[120, 46, 112, 45, 49]⟩] 9) = w9 := ⟨_, rfl⟩
      obtain ⟨G2, hG2⟩ : ∃ G, w8.heap.size = G := ⟨_, rfl⟩
      have hb9 : Below w8.heap.size w8 w9 := by rw [← hw9]; exact (Below.refl _ w8).alloc (Nat.le_refl _) _
      have hr9 : w9.heap[G2]? = some (.cells #[.string ⟨#[]⟩, .string ⟨#[113]⟩, .string ⟨#[114]⟩, .string ⟨#[120, 46, 112, 45, 49]⟩] 9 (0, 0)) := by rw [← hw9, ← hG2]; exact heap_alloc_new w8 _
      have HB8 := hid ((HB6.out.below hb7).below hb8)
      have HB9 := hid (HB8.out.below hb9)
      have cM2 := made_any sp lo al tx ks HWD.out HCN.out 0 (by omega) pre2 sep pre2_pre HSP.out.2.1 w9 (fun b => b < W.heap.size) _ G2 0 4 (HHAS.out.keep (fun _ h => h) (fun b hb => HB9.out.b.block b hb)) (fun b hb => Nat.lt_of_lt_of_le hb HB9.out.b.size) (Nat.le_refl _) (fun i hi => by
        have h4 : i = 0 ∨ i = 1 ∨ i = 2 ∨ i = 3 := by omega
        rw [Nat.zero_add]
        rcases h4 with rfl | rfl | rfl | rfl <;> exact rowCell hr9 _) (HEN.out.t.under HB9.out.b)
      rw [show ((0 : Nat) : Int) = 0 from rfl] at cM2
      have HW8 := hid hw8
      have HW9 := hid (And.intro hw9 hG2)
      have HCM := hid cM2
      have HN8 : Hid (BN (X.nodeT 0 sp lo al tx ks) V6 [.string sa, .string sl, .slice a1 n1 c1, .slice a2 n2 c2, .string st, .int .i64 0, .int .i64 0] w8) := by
        show BN _ _ _ _
        rw [← hw8, ← hV6]
        exact BN.mk' hh7
      have HN9 := hid (HN8.out.below hb9)
      have hV6b : w7.heap.size = V6 := hV6
      clear hh7
      clear hw8 hw9 hG2 hr9 cM2 hb8 hb9 hb7
      go_upto_region 5 with fail
      rw [HW8.out]
      obtain ⟨x0, x1, x2, x3, x4⟩ := row5s HB8.out.t
      go_wp2_with fail
      rw [HW9.out.2, HW9.out.1]
      refine HCM.out.mono ?_
      clear HCM HW9 HW8 x0 x1 x2 x3 x4
      clear hV6 hV6b
      rintro e w10 ⟨hb10, ⟨htok2, cs9, rfl, hhas2⟩ | ⟨htbad, cx, cx2, cx3, ca1, cn1, cc1, ca2, cn2, cc2, rfl⟩⟩
      rotate_left
      · rw [htok] at htbad; cases htbad
      obtain ⟨av9, kv9, rfl, hav9, hkv9⟩ := hhas2
      obtain ⟨d1, e1, rfl⟩ := hav9.shape
      obtain ⟨d2, e2, rfl⟩ := hkv9.shape
      obtain ⟨sa2, hsa⟩ : ∃ q, (X.nodeT 0 sp lo al tx ks).sp = q := ⟨_, rfl⟩
      obtain ⟨sl2, hsl⟩ : ∃ q, (X.nodeT 0 sp lo al tx ks).lo = q := ⟨_, rfl⟩
      obtain ⟨m1, hm1⟩ : ∃ q, (X.E.as (X.nodeT 0 sp lo al tx ks)).length = q := ⟨_, rfl⟩
      obtain ⟨m2, hm2⟩ : ∃ q, (X.nodeT 0 sp lo al tx ks).ks.length = q := ⟨_, rfl⟩
      obtain ⟨st2, hst⟩ : ∃ q, (X.nodeT 0 sp lo al tx ks).tx = q := ⟨_, rfl⟩
      rw [hsa, hsl, hm1, hm2, hst, show (X.nodeT 0 sp lo al tx ks).ln = 0 from rfl, show (X.nodeT 0 sp lo al tx ks).cl = 0 from rfl]
      obtain ⟨b2, hb2⟩ : ∃ b, X.ba (X.elemT pre2 sep 0 sp lo al tx ks) = b := ⟨_, rfl⟩
      rw [hb2]
      have HBC := hid hb2
      clear hav9 hkv9 hsa hsl hm1 hm2 hst hb2
      obtain ⟨w11, hw11⟩ : ∃ w11, w10.alloc (.cells #[.string sa2, .string sl2, .slice d1 m1 e1, .slice d2 m2 e2, .string st2, .int .i64 0, .int .i64 0] 28) = w11 := ⟨_, rfl⟩
      have hb11 : Below w10.heap.size w10 w11 := by rw [← hw11]; exact (Below.refl _ w10).alloc (Nat.le_refl _) _
      have HB11 := hid ((HB9.out.below hb10).below hb11)
      have HN11 := hid ((HN9.out.below hb10).below hb11)
      have HW11 := hid hw11
      have HTK := hid htok
      clear hw11 hb10 hb11 htok htok2 HB9 HN9 HB8 HN8 HB6
      go_upto_region 6 with fail
      rw [HW11.out]
      by_cases hl1 : 60000 < b1.size
      · have e3 : decide ((60000 : Int) < (b1.size : Int)) = true := decide_eq_true (by omega)
        have e4 : decide (60000 < b1.size) = true := decide_eq_true hl1
        go_wp2_with fail
        go_ret
        exact ⟨rfl, HB11.out.b⟩
      have e3 : decide ((60000 : Int) < (b1.size : Int)) = false := decide_eq_false (by omega)
      have e4 : decide (60000 < b1.size) = false := decide_eq_false hl1
      by_cases hl2 : 60000 < b2.size
      · have e5 : decide ((60000 : Int) < (b2.size : Int)) = true := decide_eq_true (by omega)
        have e6 : decide (60000 < b2.size) = true := decide_eq_true hl2
        go_wp2_with fail
        go_ret
        exact ⟨rfl, HB11.out.b⟩
      have e5 : decide ((60000 : Int) < (b2.size : Int)) = false := decide_eq_false (by omega)
      have e6 : decide (60000 < b2.size) = false := decide_eq_false hl2
      obtain ⟨sb, hsb⟩ : ∃ b, X.ba sep = b := ⟨_, rfl⟩
      have hsz : sb.size ≤ 3 := by rw [← hsb, ba_size]; exact HSP.out.2.1
      have hal : X.asOk al = true ∧ X.okC ks 0 tx = true := by
        have h := HTK.out
        unfold X.treeOk at h
        simpa using h
      obtain ⟨ea, hea, hpa⟩ := X.parse_one pre1_pre HSP.out.1 sp lo al tx ks hal.1 hal.2 HCN.out
      obtain ⟨eb, heb, hpb⟩ := X.parse_two pre2_pre HSP.out.1 sp lo al tx ks hal.1 hal.2 HCN.out
      have ht1 : (⟨#[60, 63, 120, 109, 108, 32, 118, 101, 114, 115, 105, 111, 110, 61, 34, 49, 46, 48, 34, 63, 62]⟩ : ByteArray) ++ sb ++ (⟨#[60, 33, 45, 45, 32, 97, 32, 45, 32, 98, 32, 45, 45, 62]⟩ : ByteArray) ++ b1 ++ sb = X.ba (X.head1 ++ (sep ++ (X.cm1 ++ (X.elemT pre1 sep 0 sp lo al tx ks ++ sep)))) := by
        rw [← hsb, ← HBB.out, show (⟨#[60, 63, 120, 109, 108, 32, 118, 101, 114, 115, 105, 111, 110, 61, 34, 49, 46, 48, 34, 63, 62]⟩ : ByteArray) = X.ba X.head1 from rfl, show (⟨#[60, 33, 45, 45, 32, 97, 32, 45, 32, 98, 32, 45, 45, 62]⟩ : ByteArray) = X.ba X.cm1 from rfl, ba_cat, ba_cat, ba_cat, ba_cat]
        simp only [List.append_assoc]
      have ht2 : b2 ++ (⟨#[60, 33, 45, 45, 45, 45, 62]⟩ : ByteArray) = X.ba (X.elemT pre2 sep 0 sp lo al tx ks ++ X.cm2) := by
        rw [← HBC.out, show (⟨#[60, 33, 45, 45, 45, 45, 62]⟩ : ByteArray) = X.ba X.cm2 from rfl, ba_cat]
      obtain ⟨t1, hq1⟩ : ∃ t, X.ba (X.head1 ++ (sep ++ (X.cm1 ++ (X.elemT pre1 sep 0 sp lo al tx ks ++ sep)))) = t := ⟨_, rfl⟩
      obtain ⟨t2, hq2⟩ : ∃ t, X.ba (X.elemT pre2 sep 0 sp lo al tx ks ++ X.cm2) = t := ⟨_, rfl⟩
      have hp1 : X.parse t1.data.toList = .ok ea := by rw [← hq1]; show X.parse ((X.head1 ++ _).toArray.toList) = _; rw [List.toList_toArray]; exact hpa
      have hp2 : X.parse t2.data.toList = .ok eb := by rw [← hq2]; show X.parse ((_ ++ X.cm2).toArray.toList) = _; rw [List.toList_toArray]; exact hpb
      rw [hq1] at ht1
      rw [hq2] at ht2
      have hz1 : t1.size ≤ 65536 := by
        rw [← ht1, ByteArray.size_append, ByteArray.size_append, ByteArray.size_append, ByteArray.size_append, show (⟨#[60, 63, 120, 109, 108, 32, 118, 101, 114, 115, 105, 111, 110, 61, 34, 49, 46, 48, 34, 63, 62]⟩ : ByteArray).size = 21 from rfl, show (⟨#[60, 33, 45, 45, 32, 97, 32, 45, 32, 98, 32, 45, 45, 62]⟩ : ByteArray).size = 14 from rfl]
        omega
      have hz2 : t2.size ≤ 65536 := by
        rw [← ht2, ByteArray.size_append, show (⟨#[60, 33, 45, 45, 45, 45, 62]⟩ : ByteArray).size = 7 from rfl]
        omega
      have cP1 := parse_any t1 hz1 w11 (HEN.out.e.keep HB11.out.b) (HEN.out.t.under HB11.out.b)
      rw [hp1] at cP1
      have HCP := hid cP1
      have HT1 := hid ht1
      have HT2 := hid ht2
      have HP2 := hid (And.intro hp2 hz2)
      have HEA := hid (And.intro hea heb)
      rw [hsb]
      clear hal hea hpa heb hpb ht1 ht2 hq1 hq2 hp1 hp2 hz1 hz2 cP1 hsb
      go_wp2_with fail
      rw [HT1.out]
      refine HCP.out.mono ?_
      rintro e w12 (⟨ea', cs, hx, rfl, hh, hb12⟩ | ⟨n, er, hx, -, -⟩)
      rotate_left
      · cases hx
      obtain rfl : ea = ea' := by injection hx
      obtain ⟨av1, kv1, rfl, hav1, hkv1⟩ := hh
      obtain ⟨f1, g1, rfl⟩ := hav1.shape
      obtain ⟨f2, g2, rfl⟩ := hkv1.shape
      obtain ⟨ga1, hga⟩ : ∃ q, ea.sp = q := ⟨_, rfl⟩
      obtain ⟨gl1, hgl⟩ : ∃ q, ea.lo = q := ⟨_, rfl⟩
      obtain ⟨gk1, hgk⟩ : ∃ q, (X.E.as ea).length = q := ⟨_, rfl⟩
      obtain ⟨gm1, hgm⟩ : ∃ q, ea.ks.length = q := ⟨_, rfl⟩
      obtain ⟨gt1, hgt⟩ : ∃ q, ea.tx = q := ⟨_, rfl⟩
      obtain ⟨gn1, hgn⟩ : ∃ q : Int, ((ea.ln : Nat) : Int) = q := ⟨_, rfl⟩
      obtain ⟨gc1, hgc⟩ : ∃ q : Int, ((ea.cl : Nat) : Int) = q := ⟨_, rfl⟩
      have hh9 : ea.Has w12 (OwnN w12 w11.heap.size none) [.string ea.sp, .string ea.lo, .slice f1 (X.E.as ea).length g1, .slice f2 ea.ks.length g2, .string ea.tx, .int .i64 (ea.ln : Nat), .int .i64 (ea.cl : Nat)] := ⟨_, _, rfl, hav1, hkv1⟩
      rw [hga, hgl, hgk, hgm, hgt, hgn, hgc] at hh9 ⊢
      obtain ⟨VA, hVA⟩ : ∃ V, w12.heap.size = V := ⟨_, rfl⟩
      obtain ⟨w13, hw13⟩ : ∃ wn, (w12.alloc (.cells #[.string ga1, .string gl1, .slice f1 gk1 g1, .slice f2 gm1 g2, .string gt1, .int .i64 gn1, .int .i64 gc1] 28)).alloc (.cells #[.int .i64 0, .int .i64 0] 26) = wn := ⟨_, rfl⟩
      have hbn : Below w12.heap.size w12 w13 := by rw [← hw13]; exact ((Below.refl _ w12).alloc (Nat.le_refl _) _).alloc (by simp) _
      have HXVA : Hid (BN ea VA [.string ga1, .string gl1, .slice f1 gk1 g1, .slice f2 gm1 g2, .string gt1, .int .i64 gn1, .int .i64 gc1] w13) := by
        show BN _ _ _ _
        rw [← hw13, ← hVA]
        exact (BN.mk' hh9).below ((Below.refl _ _).alloc (Nat.le_refl _) _)
      have HWw13 := hid (And.intro hw13 hVA)
      clear hga hgl hgk hgm hgt hgn hgc hh9 hw13 hav1 hkv1
      have HB13 := hid ((HB11.out.below hb12).below hbn)
      have HN13 := hid ((HN11.out.below hb12).below hbn)
      clear hb12 hbn hx HCP HB11 HN11
      go_upto_region 11 with fail
      rw [HWw13.out.1]
      try rw [hVA]
      clear hVA
      have cP2 := parse_any t2 HP2.out.2 w13 (HEN.out.e.keep HB13.out.b) (HEN.out.t.under HB13.out.b)
      rw [HP2.out.1] at cP2
      have HCP := hid cP2
      clear cP2
      go_wp2_with fail
      rw [HT2.out]
      refine HCP.out.mono ?_
      rintro e w14 (⟨eb', cs, hx, rfl, hh, hb14⟩ | ⟨n, er, hx, -, -⟩)
      rotate_left
      · cases hx
      obtain rfl : eb = eb' := by injection hx
      obtain ⟨av2, kv2, rfl, hav2, hkv2⟩ := hh
      obtain ⟨i1, j1, rfl⟩ := hav2.shape
      obtain ⟨i2, j2, rfl⟩ := hkv2.shape
      obtain ⟨ga2, hga⟩ : ∃ q, eb.sp = q := ⟨_, rfl⟩
      obtain ⟨gl2, hgl⟩ : ∃ q, eb.lo = q := ⟨_, rfl⟩
      obtain ⟨gk2, hgk⟩ : ∃ q, (X.E.as eb).length = q := ⟨_, rfl⟩
      obtain ⟨gm2, hgm⟩ : ∃ q, eb.ks.length = q := ⟨_, rfl⟩
      obtain ⟨gt2, hgt⟩ : ∃ q, eb.tx = q := ⟨_, rfl⟩
      obtain ⟨gn2, hgn⟩ : ∃ q : Int, ((eb.ln : Nat) : Int) = q := ⟨_, rfl⟩
      obtain ⟨gc2, hgc⟩ : ∃ q : Int, ((eb.cl : Nat) : Int) = q := ⟨_, rfl⟩
      have hh9 : eb.Has w14 (OwnN w14 w13.heap.size none) [.string eb.sp, .string eb.lo, .slice i1 (X.E.as eb).length j1, .slice i2 eb.ks.length j2, .string eb.tx, .int .i64 (eb.ln : Nat), .int .i64 (eb.cl : Nat)] := ⟨_, _, rfl, hav2, hkv2⟩
      rw [hga, hgl, hgk, hgm, hgt, hgn, hgc] at hh9 ⊢
      obtain ⟨VB, hVB⟩ : ∃ V, w14.heap.size = V := ⟨_, rfl⟩
      obtain ⟨w15, hw15⟩ : ∃ wn, (w14.alloc (.cells #[.string ga2, .string gl2, .slice i1 gk2 j1, .slice i2 gm2 j2, .string gt2, .int .i64 gn2, .int .i64 gc2] 28)).alloc (.cells #[.int .i64 0, .int .i64 0] 26) = wn := ⟨_, rfl⟩
      have hbn : Below w14.heap.size w14 w15 := by rw [← hw15]; exact ((Below.refl _ w14).alloc (Nat.le_refl _) _).alloc (by simp) _
      have HXVB : Hid (BN eb VB [.string ga2, .string gl2, .slice i1 gk2 j1, .slice i2 gm2 j2, .string gt2, .int .i64 gn2, .int .i64 gc2] w15) := by
        show BN _ _ _ _
        rw [← hw15, ← hVB]
        exact (BN.mk' hh9).below ((Below.refl _ _).alloc (Nat.le_refl _) _)
      have HWw15 := hid (And.intro hw15 hVB)
      clear hga hgl hgk hgm hgt hgn hgc hh9 hw15 hav2 hkv2
      have HB15 := hid ((HB13.out.below hb14).below hbn)
      have HN15 := hid ((HN13.out.below hb14).below hbn)
      have HA15 := hid ((HXVA.out.below hb14).below hbn)
      clear hb14 hbn hx HCP HB13 HN13 HXVA
      go_upto_region 12 with fail
      rw [HWw15.out.1]
      try rw [hVB]
      clear hVB
      have hsm : (X.nodeT 0 sp lo al tx ks).one.small := X.node_small 0 sp lo al tx ks HCN.out
      have cS1 := rsame_any ea (X.nodeT 0 sp lo al tx ks) HEA.out.1 (X.Alike.small HEA.out.1 hsm) w15 (fun b => b < w15.heap.size) _ _ HA15.out.h HN15.out.h (fun _ h => h)
      have cS2 := fun (U : World) (hU : Below w15.heap.size w15 U) => rsame_any eb (X.nodeT 0 sp lo al tx ks) HEA.out.2 (X.Alike.small HEA.out.2 hsm) U (fun b => b < U.heap.size) _ _ (HXVB.out.below hU).h (HN15.out.below hU).h (fun _ h => h)
      have HS2 := hid cS2
      obtain ⟨p0, p1, p2, p3, p4, p5, p6⟩ := row7s HA15.out.r
      obtain ⟨q0, q1, q2, q3, q4, q5, q6⟩ := row7s HN15.out.r
      clear hsm cS2
      go_wp2_with fail
      refine cS1.mono ?_
      rintro e w16 ⟨rfl, hb16⟩
      have HB16 := hid (HB15.out.below hb16)
      have HU := hid hb16
      obtain ⟨p0, p1, p2, p3, p4, p5, p6⟩ := row7s (HXVB.out.below hb16).r
      obtain ⟨q0, q1, q2, q3, q4, q5, q6⟩ := row7s (HN15.out.below hb16).r
      clear cS1 hb16
      go_wp2_with fail
      refine (HS2.out _ HU.out).mono ?_
      rintro e w17 ⟨rfl, hb17⟩
      have HB17 := hid (HB16.out.below hb17)
      clear hb17
      go_wp2_with fail
      go_ret
      exact ⟨rfl, HB17.out.b⟩
    · obtain ⟨w8, hw8⟩ : ∃ w8, w7.alloc (.cells #[.string bx, .string bx2, .slice ba1 bn1 bc1, .slice ba2 bn2 bc2, .string bx3, .int .i64 0, .int .i64 0] 28) = w8 := ⟨_, rfl⟩
      have hb8 : Below w7.heap.size w7 w8 := by rw [← hw8]; exact (Below.refl _ w7).alloc (Nat.le_refl _) _
      obtain ⟨w9, hw9⟩ : ∃ w9, w8.alloc (.cells #[.string ⟨#[]⟩, .string ⟨#[113]⟩, .string ⟨#[114]⟩, .string ⟨#[120, 46, 112, 45, 49]⟩] 9) = w9 := ⟨_, rfl⟩
      obtain ⟨G2, hG2⟩ : ∃ G, w8.heap.size = G := ⟨_, rfl⟩
      have hb9 : Below w8.heap.size w8 w9 := by rw [← hw9]; exact (Below.refl _ w8).alloc (Nat.le_refl _) _
      have hr9 : w9.heap[G2]? = some (.cells #[.string ⟨#[]⟩, .string ⟨#[113]⟩, .string ⟨#[114]⟩, .string ⟨#[120, 46, 112, 45, 49]⟩] 9 (0, 0)) := by rw [← hw9, ← hG2]; exact heap_alloc_new w8 _
      have HB8 := hid ((HB6.out.below hb7).below hb8)
      have HB9 := hid (HB8.out.below hb9)
      have cM2 := made_any sp lo al tx ks HWD.out HCN.out 0 (by omega) pre2 sep pre2_pre HSP.out.2.1 w9 (fun b => b < W.heap.size) _ G2 0 4 (HHAS.out.keep (fun _ h => h) (fun b hb => HB9.out.b.block b hb)) (fun b hb => Nat.lt_of_lt_of_le hb HB9.out.b.size) (Nat.le_refl _) (fun i hi => by
        have h4 : i = 0 ∨ i = 1 ∨ i = 2 ∨ i = 3 := by omega
        rw [Nat.zero_add]
        rcases h4 with rfl | rfl | rfl | rfl <;> exact rowCell hr9 _) (HEN.out.t.under HB9.out.b)
      rw [show ((0 : Nat) : Int) = 0 from rfl] at cM2
      have HW8 := hid hw8
      have HW9 := hid (And.intro hw9 hG2)
      have HCM := hid cM2
      clear hw8 hw9 hG2 hr9 cM2 hb8 hb9 hb7
      go_upto_region 5 with fail
      rw [HW8.out]
      obtain ⟨x0, x1, x2, x3, x4⟩ := row5s HB8.out.t
      go_wp2_with fail
      rw [HW9.out.2, HW9.out.1]
      refine HCM.out.mono ?_
      clear HCM HW9 HW8 x0 x1 x2 x3 x4
      rintro e w10 ⟨hb10, ⟨htok, cs8, rfl, hhas⟩ | ⟨_, cx, cx2, cx3, ca1, cn1, cc1, ca2, cn2, cc2, rfl⟩⟩
      · rw [htbad] at htok; cases htok
      · have HB10 := hid (HB9.out.below hb10)
        clear hb10
        go_wp2_with fail
        go_ret
        exact ⟨rfl, HB10.out.b.alloc HB10.out.b.size _⟩
end Go.Proofs.YtakplnceiibmlaaGreatDoor
