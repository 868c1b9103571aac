/- Records handed in: opened. -/
import Derived.Test.YtfadnhihcobclaaDoorKArg
import Derived.Test.YtfadnhihcobclaaDoorKItems
namespace Go.Proofs.YtfadnhihcobclaaDoor
open Go.Joins Go.ChangeShapes Go.WideShapes Go.RowKit Go.Deep
open K
theorem cellsRefItem : Tryd.prog.cellsOf 74 = 4 := by kernel_rfl
theorem add_spot {b o i j : Nat} : ((⟨b, o, none⟩ : Addr).add i).add j = ⟨b, o + i + j, none⟩ := by
  cases i <;> cases j <;> simp [Addr.add] <;> omega
theorem bulk_mem {H : Type} (D : Nat → DataW H) (len i : Nat) (h : i < len) : Rows.uptoBulk (D i) ≤ Rows.uptoBulkAll ((List.range len).map D) := by
  have gen : ∀ (l : List (DataW H)) (d : DataW H), d ∈ l → Rows.uptoBulk d ≤ Rows.uptoBulkAll l := by
    intro l
    induction l with
    | nil => intro d h; cases h
    | cons e r ih =>
      intro d h
      simp only [Rows.uptoBulkAll]
      rcases List.mem_cons.1 h with rfl | h
      · omega
      · have := ih d h; omega
  exact gen _ _ (List.mem_map.2 ⟨i, List.mem_range.2 h, rfl⟩)
section
variable {H : Type} {enc : TypeId × Value → H} {w : World} {base : Nat} {sp : Nat → Bool} {held : Bool}
set_option maxRecDepth 100000 in
theorem open_itemsF : ∀ (N fuel : Nat) (cs : List Value) (x : DataW H × List MemPlace), DataW.trod enc Tryd.prog w base sp held fuel 39 cs = some x → Rows.uptoBulk x.1 < N → Rows.uptoBulk x.1 ≤ 1048576 →
    ∃ (l : Items) (v : Value), cs = [v] ∧ l.In w w.heap.size v ∧ l.may ∧ l.room ≤ 11 * Rows.uptoBulk x.1 := by
  intro N
  induction N with
  | zero => intro fuel cs x _ h; omega
  | succ N ih =>
    intro fuel cs x hf hN hbig
    rcases open_slice Tryd.underlying39 hf with ⟨rfl, rfl⟩ | ⟨a, len, cap, m, n', D, Pl, rfl, hb, hl, hm, hmm, rfl, hi⟩
    · exact ⟨.nil, _, rfl, Or.inl ⟨_, _, rfl, rfl⟩, trivial, Nat.zero_le _⟩
    · have hlm : len ≤ m := by rw [hmm]; split <;> omega
      simp only [Rows.uptoBulk] at hN hbig ⊢
      obtain ⟨b, o, spot⟩ := a
      rcases Nat.eq_zero_or_pos len with rfl | h0
      · exact ⟨.nil, _, rfl, Or.inl ⟨_, _, rfl, rfl⟩, trivial, Nat.zero_le _⟩
      have hspot : spot = none := by
        obtain ⟨cs', hc, ht⟩ := hi 0 (by omega)
        rw [cellsRefItem] at hc
        obtain ⟨_, hlen, hat⟩ := World.cells?_some hc
        match cs', hlen with
        | [c0, c1, c2, c3], _ =>
          have hat0 := hat 0 (by decide)
          rw [Nat.zero_mul] at hat0
          have := World.cell?_spot hat0
          simpa [Addr.add] using this
      subst hspot
      have build : ∀ (c i : Nat), i + c = len → (∃ l : Items, l.length = c ∧ l.At w w.heap.size b (o + 4 * i) ∧ l.may ∧ l.room ≤ 11 * Rows.uptoBulkAll ((List.range' i c).map D)) := by
        intro c
        induction c with
        | zero => intro i _; exact ⟨.nil, rfl, trivial, trivial, Nat.zero_le _⟩
        | succ c ihc =>
          intro i hic
          obtain ⟨cs', hc, ht⟩ := hi i (by omega)
          rw [cellsRefItem] at hc
          obtain ⟨_, hlen, hat⟩ := World.cells?_some hc
          match cs', hlen with
          | [c0, c1, c2, c3], _ =>
            obtain ⟨y0, y1, y2, y3, n2, hy, _, t0, t1, t2, t3⟩ := trod_struct4 Tryd.underlying74 ht
            have k0 : Tryd.prog.cellsOf 5 = 1 := by kernel_rfl
            have k1 : Tryd.prog.cellsOf 2 = 1 := by kernel_rfl
            have k2 : Tryd.prog.cellsOf 9 = 1 := by kernel_rfl
            have k3 : Tryd.prog.cellsOf 39 = 1 := by kernel_rfl
            obtain ⟨x0, e0, rfl, w0⟩ := DataW.trod_int Tryd.underlying5 t0
            obtain ⟨x1, e1, rfl, w1⟩ := DataW.trod_int Tryd.underlying2 t1
            obtain ⟨x2, e2, rfl, w2⟩ := DataW.trod_string Tryd.underlying9 t2
            simp only [Prod.mk.injEq] at hy
            have f0 : c0 = .int .u8 x0 := by simpa [k0] using e0
            have f1 : c1 = .int .i64 x1 := by simpa [k1] using e1
            have f2 : c2 = .string x2 := by simpa [k2] using e2
            subst f0 f1 f2
            have hDi : Rows.uptoBulk (D i) = 1 + (1 + (x2.data.toList.length + 1 + (Rows.uptoBulk y3.1 + 0))) + 1 := by
              rw [hy.1]
              simp only [Rows.uptoBulk, Rows.uptoBulkAll]
            have hmem : Rows.uptoBulk (D i) ≤ Rows.uptoBulkAll ((List.range len).map D) := bulk_mem D len i (by omega)
            have h2l : x2.data.toList.length = x2.size := Array.length_toList
            have t3' : DataW.trod enc Tryd.prog w base sp held n2 39 [c3] = some y3 := by simpa [k3] using t3
            obtain ⟨ml, mv, e3, hIn, hmay, hroom⟩ := ih n2 [c3] y3 t3' (by omega) (by omega)
            obtain rfl : c3 = mv := by simpa using e3
            obtain ⟨r, g1, g2, g3, g4⟩ := ihc (i + 1) (by omega)
            obtain ⟨k, hk⟩ : ∃ k : Nat, x0 = (k : Int) := ⟨x0.toNat, by have := bounds_u8 w0; omega⟩
            have hcell : ∀ j u, ([Value.int .u8 x0, .int .i64 x1, .string x2, c3] : List Value)[j]? = some u → w.cell? ⟨b, o + 4 * i + j, none⟩ = some u := fun j u hj => by
              have hj4 : j < 4 := (List.getElem?_eq_some_iff.1 hj).1
              have := hat j hj4
              rw [add_spot, show o + i * 4 + j = o + 4 * i + j by omega] at this
              exact this.trans hj
            refine ⟨.cons k x1 x2 ml r, by simp only [Items.length, g1], ⟨World.block_lt_of_cell? w ⟨b, o + 4 * i, none⟩ (hcell 0 _ rfl), ?_, hcell 1 _ rfl, hcell 2 _ rfl, ⟨c3, hcell 3 _ rfl, ?_⟩, ?_⟩, ?_, ?_⟩
            · rw [← hk]; exact hcell 0 _ rfl
            · exact hIn
            · rw [show o + 4 * i + 4 = o + 4 * (i + 1) by omega]; exact g2
            · have hb8 := bounds_u8 w0
              have hb64 := bounds_i64 w1
              have hrl := Items.room_length ml
              exact ⟨by omega, hb64.1, hb64.2, by omega, by omega, hmay, g3⟩
            · simp only [Items.room, List.range'_succ, List.map_cons, Rows.uptoBulkAll]
              omega
      obtain ⟨l, g1, g2, g3, g4⟩ := build len 0 (by omega)
      rw [← List.range_eq_range'] at g4
      exact ⟨l, _, rfl, Or.inr ⟨b, o, cap, by rw [g1], g2⟩, g3, by omega⟩
set_option maxRecDepth 100000 in
theorem open_items {r : Reach} {b0 : Nat} {v : Value} {d : DataW H} {p : List MemPlace} (hv : Value.okWide Tryd.prog w r b0 39 v) (h : DataW.Trod enc Tryd.prog w base sp held 39 v d p) (hb : Rows.uptoBulk d ≤ 1048576) :
    ∃ l : Items, l.In w w.heap.size v ∧ l.may ∧ l.room ≤ 11534336 := by
  obtain ⟨xa, n, c, rfl⟩ := okWide_slice Tryd.underlying39 hv
  obtain ⟨fuel, hf⟩ := h
  obtain ⟨l, v, e, h1, h2, h3⟩ := open_itemsF (Rows.uptoBulk d + 1) fuel _ _ hf (Nat.lt_succ_self _) hb
  simp only [Value.cells, List.cons.injEq, and_true] at e
  subst e
  simp only at h3
  exact ⟨l, h1, h2, by omega⟩
end
end Go.Proofs.YtfadnhihcobclaaDoor
