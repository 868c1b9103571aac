/- The reader: an element's attributes. -/
import Derived.Test.YtakplnceiibmlaaGreatDoorMRaw
import Derived.Test.YtakplnceiibmlaaGreatDoorVQuiet
import Derived.Laws.OwnMore
import Derived.Deep.AppendLies
namespace Go.Proofs.YtakplnceiibmlaaGreatDoor
open Go.RowKit
open Go.Lib (hid)
theorem infoRaw : (Tryz.prog.info? 111).map (fun i => (i.zero, i.size, i.bytes)) = some (some (.agg #[.string ⟨#[]⟩, .string ⟨#[]⟩, .int .i64 0, .string ⟨#[]⟩]), 4, 56) := by kernel_rfl
/-- the attributes in a row of the call's own -/
def ROwn (s : ByteArray) (B : Nat) (l : List X.Raw) (v : Value) (w : World) : Prop := w.ownsRow B 111 4 v l.length (rawsC s l)
section
variable {s : ByteArray} {B : Nat} {l : List X.Raw} {v : Value} {w w' : World}
theorem ROwn.below (h : ROwn s B l v w) (hb : Below w.heap.size w w') : ROwn s B l v w' :=
  World.ownsRow.kept (row := none) h ⟨hb.os, hb.tape, hb.output, hb.size, fun k hk _ => hb.block k hk⟩ (Classical.em _)
theorem ROwn.grown {R : Nat} (h : ROwn s B l v w) (g : w.grownBy w' (some R)) (hR : R < B) : ROwn s B l v w' :=
  World.ownsRow.kept h g (Or.inr fun e => by have := (World.ownsRow.lt h R e).1; omega)
theorem ROwn.put (h : ROwn s B l v w) {Y : Nat} (hY : v.ownBlock ≠ some Y) (i : Nat) (u : Value) : ROwn s B l v (w.setCell ⟨Y, i, none⟩ u) :=
  World.ownsRow.kept h (grownBy_set w Y i u) (Or.inr hY)
end
theorem attr_seq {α : Type} {out : List X.Raw} {l r : List UInt8} {nm : List UInt8 × List UInt8} (hn : X.name l = .ok (nm, r)) (g : X.Raw → List UInt8 → X.Res α) :
    (match X.attr out l with | .error e => (.error e : X.Res α) | .ok (x, r) => g x r) = if hasName out nm then .error (l.length, 6) else match X.must [61] (X.skip r) with
      | .error e => .error e
      | .ok (_, r2) => match X.value (X.skip r2) with
        | .error e => .error e
        | .ok (v, r3) => g ⟨nm.1, nm.2, l.length, v⟩ r3 := by
  unfold X.attr hasName
  rw [hn]
  simp only
  cases out.any (fun y => decide (y.pre = nm.1 ∧ y.loc = nm.2))
  · simp only [Bool.false_eq_true, if_false]
    cases X.must [61] (X.skip r) with
    | error e => rfl
    | ok y =>
      simp only
      cases X.value (X.skip y.2) with
      | error e => rfl
      | ok z => rfl
  · simp only [if_true]
/-- how attrs ends -/
def AttrsOf (W0 : World) (R : Nat) (s : ByteArray) (c : Nat) (x : X.Res (List X.Raw × Bool)) (en : Ending) (W : World) : Prop :=
  (∃ raws opn r v, x = .ok ((raws, opn), r) ∧ en = .returned (.tuple #[v, .bool opn]) ∧ raws.length ≤ 32 ∧ ROwn s W0.heap.size raws v W ∧ Rd W0 R s (s.size - r.length) c W) ∨
  (∃ n e, x = .error (n, e) ∧ en = .panicked (chain e ((s.size - n : Nat) : Int)) ∧ W0.grownBy W (some R))
theorem begins_rest {s : ByteArray} {p : Nat} (h : p < s.size) : X.begins (rest s p) = X.letter s[p] := by rw [rest_cons h]; rfl
theorem begins_nil {s : ByteArray} {p : Nat} (h : ¬ p < s.size) : X.begins (rest s p) = false := by rw [(rest_nil s p).2 (by omega)]; rfl
set_option maxRecDepth 100000 in
set_option maxHeartbeats 4000000 in
theorem attrs_any {R p c B f : Nat} {s : ByteArray} {W : World} (hf : s.size - p < f) (h : Rd W R s p c W) (hp : p ≤ s.size) (hs : s.size ≤ 1000000000000) (hG : Ground B W) (hB : B ≤ R) :
    Calls Tryz.prog 38 #[.pointer (some ⟨R, 0, none⟩)] W (AttrsOf W R s c (X.attrs f [] (rest s p))) := by
  obtain ⟨RES, hRES⟩ : ∃ x, X.attrs f [] (rest s p) = x := ⟨_, rfl⟩
  rw [hRES]
  have HLT := hid h.lt
  have HG := hid hG
  have HR := hid h
  have HI0 : Hid (s.size - p < f ∧ p ≤ s.size ∧ ([] : List X.Raw).length ≤ 32 ∧ X.attrs f [] (rest s p) = RES) := ⟨hf, hp, Nat.zero_le _, hRES⟩
  have HO0 : Hid (ROwn s W.heap.size [] (.slice none 0 0) W) := World.ownsRow_nil _ _ _ _
  clear h hG hf hp hRES
  go_enter Tryz.func38, Tryz.ntmps38
  go_wp2_with fail
  go_loopw [4, 5, 6] (fun v v5 v6 wr => ∃ (q k : Nat) (out : List X.Raw) (va : Option Addr) (vc : Nat), v = .slice va out.length vc ∧ Hid (s.size - q < k ∧ q ≤ s.size ∧ out.length ≤ 32 ∧ X.attrs k out (rest s q) = RES) ∧ Hid (Rd W R s q c wr) ∧ Hid (ROwn s W.heap.size out v wr)) (fun _ _ _ wr => s.size - posOf wr R)
  case atStart => exact ⟨_, _, [], none, 0, rfl, HI0, HR, HO0⟩
  case round =>
    obtain ⟨q, k, out, va, vc, rfl, HI, HQ, HO⟩ := hrel
    clear HI0 HR HO0
    obtain ⟨h1, h2, h4, h3⟩ := HI.out
    obtain ⟨k, rfl⟩ : ∃ k', k = k' + 1 := ⟨k - 1, by omega⟩
    obtain ⟨n, hn⟩ : ∃ n, out.length = n := ⟨_, rfl⟩
    have hnO : Hid (ROwn s W.heap.size out (.slice va n vc) wr) := hn ▸ HO
    rw [hn] at h4 ⊢
    clear HO
    have HO := hnO
    clear hnO
    have cBl := blanks_any HQ.out.own h2 hs
    have hsk := X.Suf.skip (rest s q)
    have hpos := rest_pos hsk h2
    have hre := rest_suf hsk
    obtain ⟨u, hu⟩ : ∃ u, s.size - (X.skip (rest s q)).length = u := ⟨_, rfl⟩
    rw [hu] at cBl hpos hre
    have hsk2 : (X.skip (rest s q)).length = s.size - u := by have := hsk.len; rw [rest_len] at this; omega
    obtain ⟨sm, hsm⟩ : ∃ sm, decide (q < u) = sm := ⟨_, rfl⟩
    rw [hsm] at cBl
    have HPOS := hid HQ.out.pos
    have HE0 : Hid (RES = (if [62].isPrefixOf (rest s u) then .ok ((out, true), rest s (u + 1))
      else if [47].isPrefixOf (rest s u) then
        match X.must [62] (rest s (u + 1)) with
        | .error e => .error e
        | .ok (_, r) => .ok ((out, false), r)
      else if s.size - u = s.size - q ∨ X.begins (rest s u) = false then .error (X.bad (rest s u))
      else if n = 32 then .error (s.size - u, 3)
      else match X.attr out (rest s u) with
        | .error e => .error e
        | .ok (x, r) => X.attrs k (out ++ [x]) r)) := by
      show _ = _
      rw [← h3, X.attrs, hre, rest_drop, rest_len, rest_len, hn]
      rfl
    have HU : Hid (q ≤ u ∧ u ≤ s.size) := hpos
    have hus := hpos.2
    have HN := hid hn
    have HSM : Hid (sm = decide (q < u)) := hsm.symm
    clear h1 h3 hsk hpos hre hu hsk2 hsm hn
    go_wp2_with fail
    refine cBl.mono ?_
    rintro e w1 ⟨rfl, g3⟩
    have H1 := hid (HQ.out.trans g3)
    have HO1 := hid (HO.out.grown g3.g HLT.out)
    have cT := take_l (k := 1) [62] ⟨#[62]⟩ rfl rfl H1.out.own hus hs
    clear g3 cBl HO
    go_wp2_with fail
    refine cT.mono ?_
    rintro e w2 (⟨g1, g2, rfl, g3⟩ | ⟨g1, rfl, g3⟩)
    · have HE : Hid (RES = .ok ((out, true), rest s (u + 1)) ∧ s.size - (rest s (u + 1)).length = u + 1) := by
        refine ⟨?_, by rw [rest_len]; omega⟩
        rw [HE0.out, if_pos g1]
      have H2 := hid (H1.out.trans g3)
      have HO2 := hid (HO1.out.grown g3.g HLT.out)
      clear g1 g2 g3 cT HE0 HO1
      go_wp2_with fail
      go_ret2
      exact Or.inl ⟨_, _, _, _, HE.out.1, rfl, by rw [HN.out]; exact h4, HO2.out, by rw [HE.out.2]; exact H2.out⟩
    · have H2 := hid (H1.out.below g3)
      have HO2 := hid (HO1.out.below g3)
      have HN1 : Hid (¬ [62].isPrefixOf (rest s u) = true) := by show ¬ _; rw [g1]; decide
      have cT2 := take_l (k := 1) [47] ⟨#[47]⟩ rfl rfl H2.out.own hus hs
      clear g1 g3 cT HO1
      go_wp2_with fail
      refine cT2.mono ?_
      rintro e w3 (⟨g1, g2, rfl, g3⟩ | ⟨g1, rfl, g3⟩)
      · have HE : Hid (RES = (match X.must [62] (rest s (u + 1)) with | .error e => .error e | .ok (_, r) => .ok ((out, false), r))) := by
          show _ = _
          rw [HE0.out, if_neg HN1.out, if_pos g1]
        have H3 := hid (H2.out.trans g3)
        have HO3 := hid (HO2.out.grown g3.g HLT.out)
        have cM := must_l [62] ⟨#[62]⟩ rfl H3.out.own g2 hs
        clear g1 g2 g3 cT2 HE0 HO2
        go_wp2_with fail
        refine cM.mono ?_
        rintro e w4 (⟨x, r, hx, rfl, hr⟩ | ⟨m, e, hx, rfl, hr⟩)
        · have HE2 : Hid (RES = .ok ((out, false), r)) := by show _ = _; rw [HE.out, hx]
          have H4 := hid (H3.out.trans hr)
          have HO4 := hid (HO3.out.grown hr.g HLT.out)
          clear hx hr cM HE HO3
          go_wp2_with fail
          go_ret2
          exact Or.inl ⟨_, _, _, _, HE2.out, rfl, by rw [HN.out]; exact h4, HO4.out, H4.out⟩
        · have HE2 : Hid (RES = .error (m, e)) := by show _ = _; rw [HE.out, hx]
          exact ⟨rfl, Or.inr ⟨_, _, HE2.out, rfl, H3.out.g.trans hr⟩⟩
      · have H3 := hid (H2.out.below g3)
        have HO3 := hid (HO2.out.below g3)
        have HN2 : Hid (¬ [47].isPrefixOf (rest s u) = true) := by show ¬ _; rw [g1]; decide
        clear g1 g3 cT2 HO2
        have hcase : sm = false ∨ (sm = true ∧ ¬ u < s.size) ∨ ∃ hlt : u < s.size, (sm = true ∧ X.letter (s[u]'hlt) = false) ∨ (sm = true ∧ X.letter (s[u]'hlt) = true) := by
          cases sm
          · exact Or.inl rfl
          · by_cases hlt : u < s.size
            · refine Or.inr (Or.inr ⟨hlt, ?_⟩)
              cases hl : X.letter (s[u]'hlt)
              · exact Or.inl ⟨rfl, rfl⟩
              · exact Or.inr ⟨rfl, rfl⟩
            · exact Or.inr (Or.inl ⟨rfl, hlt⟩)
        have HBAD : Hid (sm = false ∨ X.begins (rest s u) = false → RES = .error (X.bad (rest s u))) := by
          intro hh
          have hh2 : s.size - u = s.size - q ∨ X.begins (rest s u) = false := by
            rcases hh with hh | hh
            · have := HSM.out
              rw [hh] at this
              have := of_decide_eq_false this.symm
              have := HU.out
              left; omega
            · exact Or.inr hh
          rw [HE0.out, if_neg HN1.out, if_neg HN2.out, if_pos hh2]
        go_wp2_with fail
        rcases hcase with rfl | ⟨rfl, hlt⟩ | ⟨hlt, ⟨rfl, hl⟩ | ⟨rfl, hl⟩⟩
        · have HE := hid (HBAD.out (Or.inl rfl))
          clear HBAD HE0
          refine quiet_lit (C := (fun w1 => Rd W R s u c w1)) (by kernel_rfl) (by kernel_rfl) (H3.out.drew) ?_
          repeat (first
            | go_big_quiet_skip
            | (go_big_quiet_want
               refine quiet_val (x := ?_) (fun vv hC => ?_) ?_
               rotate_left
               · skip
                 obtain ⟨c0, c1, -⟩ := hC.cells
                 clear hC
                 go_simp
                 with_reducible rfl
               go_big_quiet_on
               try simp only [Act.put, List.setIfInBounds_toArray, List.set_cons_zero, List.set_cons_succ]))
          refine wpQuiet_nil ?_
          intro vq hq
          have H4 := hid hq
          have cB := bad_any H4.out.own hus
          clear hq
          go_wp2_with fail
          refine cB.mono ?_
          rintro e w5 ⟨rfl, hbl⟩
          exact ⟨rfl, Or.inr ⟨_, _, HE.out, rfl, (H4.out.below hbl).g⟩⟩
        · have HE := hid (HBAD.out (Or.inr (begins_nil hlt)))
          have t0 : decide ((s.size : Int) ≤ (u : Int)) = true := decide_eq_true (by omega)
          have t1 : decide (s.size ≤ u) = true := decide_eq_true (by omega)
          clear HBAD HE0 hlt
          refine quiet_lit (C := (fun w1 => Rd W R s u c w1)) (by kernel_rfl) (by kernel_rfl) (H3.out.drew) ?_
          repeat (first
            | go_big_quiet_skip
            | (go_big_quiet_want
               refine quiet_val (x := ?_) (fun vv hC => ?_) ?_
               rotate_left
               · skip
                 obtain ⟨c0, c1, -⟩ := hC.cells
                 clear hC
                 go_simp
                 with_reducible rfl
               go_big_quiet_on
               try simp only [Act.put, List.setIfInBounds_toArray, List.set_cons_zero, List.set_cons_succ]))
          refine wpQuiet_nil ?_
          intro vq hq
          have H4 := hid hq
          have cB := bad_any H4.out.own hus
          clear hq
          go_wp2_with fail
          refine cB.mono ?_
          rintro e w5 ⟨rfl, hbl⟩
          exact ⟨rfl, Or.inr ⟨_, _, HE.out, rfl, (H4.out.below hbl).g⟩⟩
        · have HE := hid (HBAD.out (Or.inr (by rw [begins_rest hlt]; exact hl)))
          have t0 : decide ((s.size : Int) ≤ (u : Int)) = false := decide_eq_false (by omega)
          have t1 : decide (s.size ≤ u) = false := decide_eq_false (by omega)
          have cL := fun U => letter_any (s[u]'hlt) U
          rw [hl] at cL
          have HL := hid cL
          have P0 : (0 : Int) ≤ (u : Int) := by omega
          have P1 : (u : Int) < (s.size : Int) := by omega
          clear HBAD HE0 hl cL
          refine quiet_lit (C := (fun w1 => Rd W R s u c w1)) (by kernel_rfl) (by kernel_rfl) (H3.out.drew) ?_
          repeat (first
            | go_big_quiet_skip
            | (go_big_quiet_want
               refine quiet_val (x := ?_) (fun vv hC => ?_) ?_
               rotate_left
               · skip
                 obtain ⟨c0, c1, -⟩ := hC.cells
                 clear hC
                 go_simp
                 with_reducible rfl
               go_big_quiet_on
               try simp only [Act.put, List.setIfInBounds_toArray, List.set_cons_zero, List.set_cons_succ])
            | (go_big_quiet_want
               refine quiet_call (f := ?_) (args := ?_) (x := ?_) (fun vv hC => ?_) (fun vv hC => ?_) ?_
               rotate_left 3
               · go_simp
                 first | with_reducible rfl | (apply And.intro <;> with_reducible rfl)
               · first
                   | (go_at_call 54; with_reducible refine (HL.out _).mono ?_; rintro e ww ⟨rfl, bb⟩; refine And.intro ?_ (by rw [bb]; exact hC); with_reducible rfl)
               go_big_quiet_on
               try simp only [Act.put, List.setIfInBounds_toArray, List.set_cons_zero, List.set_cons_succ]))
          refine wpQuiet_nil ?_
          intro vq hq
          have H4 := hid hq
          have cB := bad_any H4.out.own hus
          clear hq
          go_wp2_with fail
          refine cB.mono ?_
          rintro e w5 ⟨rfl, hbl⟩
          exact ⟨rfl, Or.inr ⟨_, _, HE.out, rfl, (H4.out.below hbl).g⟩⟩
        · have HE : Hid (RES = if n = 32 then .error (s.size - u, 3) else match X.attr out (rest s u) with | .error e => .error e | .ok (x, r) => X.attrs k (out ++ [x]) r) := by
            show _ = _
            rw [HE0.out, if_neg HN1.out, if_neg HN2.out, if_neg (by
              rw [begins_rest hlt, hl]
              rintro (h0 | h0)
              · have := of_decide_eq_true HSM.out.symm
                omega
              · cases h0)]
          have t0 : decide ((s.size : Int) ≤ (u : Int)) = false := decide_eq_false (by omega)
          have t1 : decide (s.size ≤ u) = false := decide_eq_false (by omega)
          have cL := fun U => letter_any (s[u]'hlt) U
          rw [hl] at cL
          have HL := hid cL
          have P0 : (0 : Int) ≤ (u : Int) := by omega
          have P1 : (u : Int) < (s.size : Int) := by omega
          clear HBAD HE0 hl cL
          refine quiet_lit (C := (fun w1 => Rd W R s u c w1 ∧ ROwn s W.heap.size out (.slice va n vc) w1)) (by kernel_rfl) (by kernel_rfl) (⟨H3.out.drew, HO3.out.below (Below.refl _ _).drew⟩) ?_
          repeat (first
            | go_big_quiet_skip
            | (go_big_quiet_want
               refine quiet_val (x := ?_) (fun vv hC => ?_) ?_
               rotate_left
               · skip
                 obtain ⟨c0, c1, -⟩ := hC.1.cells
                 clear hC
                 go_simp
                 with_reducible rfl
               go_big_quiet_on
               try simp only [Act.put, List.setIfInBounds_toArray, List.set_cons_zero, List.set_cons_succ])
            | (go_big_quiet_want
               refine quiet_call (f := ?_) (args := ?_) (x := ?_) (fun vv hC => ?_) (fun vv hC => ?_) ?_
               rotate_left 3
               · go_simp
                 first | with_reducible rfl | (apply And.intro <;> with_reducible rfl)
               · first
                   | (go_at_call 54; with_reducible refine (HL.out _).mono ?_; rintro e ww ⟨rfl, bb⟩; refine And.intro ?_ (by rw [bb]; exact hC); with_reducible rfl)
               go_big_quiet_on
               try simp only [Act.put, List.setIfInBounds_toArray, List.set_cons_zero, List.set_cons_succ]))
          refine wpQuiet_nil ?_
          intro vq hq
          have H4 := hid hq.1
          have HO4 := hid hq.2
          clear hq HO3 HL t0 t1
          by_cases hn32 : n = 32
          · have HE2 : Hid (RES = .error (s.size - u, 3) ∧ s.size - (s.size - u) = u) := by
              refine ⟨?_, by omega⟩
              rw [HE.out, if_pos hn32]
            have s0 : ((n : Int) == 32) = true := by rw [hn32]; rfl
            obtain ⟨c0, c1, -⟩ := H4.out.cells
            have cF := fun U => fail_any 3 (u : Int) U
            clear HE hn32
            go_wp2_with fail
            refine (cF _).mono ?_
            rintro en w5 ⟨rfl, rfl⟩
            exact ⟨rfl, Or.inr ⟨_, _, HE2.out.1, by rw [HE2.out.2], H4.out.g⟩⟩
          · have HE2 : Hid (RES = match X.attr out (rest s u) with | .error e => .error e | .ok (x, r) => X.attrs k (out ++ [x]) r) := by
              show _ = _
              rw [HE.out, if_neg hn32]
            have s0 : ((n : Int) == 32) = false := beq_eq_false_iff_ne.2 (by omega)
            have hn31 : n ≤ 31 := by omega
            obtain ⟨c0, c1, -⟩ := H4.out.cells
            clear HE hn32
            obtain ⟨w6, hw6⟩ : ∃ w6, vq.alloc (.cells #[.string ⟨#[]⟩, .string ⟨#[]⟩, .int .i64 u, .string ⟨#[]⟩] 111) = w6 := ⟨_, rfl⟩
            have hX6 : w6.heap[vq.heap.size]? = some (.cells #[.string ⟨#[]⟩, .string ⟨#[]⟩, .int .i64 u, .string ⟨#[]⟩] 111 (0, 0)) := by rw [← hw6]; exact heap_alloc_new vq _
            have H6 : Hid (Rd W R s u c w6) := by show Rd _ _ _ _ _ _; rw [← hw6]; exact H4.out.alloc _
            have HO6 : Hid (ROwn s W.heap.size out (.slice va n vc) w6) := by show ROwn _ _ _ _ _; rw [← hw6]; exact HO4.out.below ((Below.refl _ vq).alloc (Nat.le_refl _) _)
            obtain ⟨Y, hY⟩ : ∃ Y, vq.heap.size = Y := ⟨_, rfl⟩
            have HY : Hid ((Value.slice va n vc).ownBlock ≠ some Y ∧ W.heap.size ≤ Y) := by
              refine ⟨fun e => ?_, ?_⟩
              · have := (World.ownsRow.lt HO4.out Y e).2; omega
              · have := H4.out.g.size; omega
            have HRY : Hid (R ≠ Y) := by have := HLT.out; have := HY.out.2; show _ ≠ _; omega
            have HW6 := hid hw6
            have HYE := hid hY
            have HX6 : Hid (w6.heap[Y]? = some (.cells #[.string ⟨#[]⟩, .string ⟨#[]⟩, .int .i64 u, .string ⟨#[]⟩] 111 (0, 0))) := by show _ = _; rw [← hY]; exact hX6
            have cN := name_any H6.out.own hus hs
            have HFN := hid (X.name_fair (rest s u))
            clear hX6 hw6 hY H4 HO4
            go_upto_region 13 with fail
            rw [HW6.out, HYE.out]
            clear HW6 HYE c0 c1
            go_wp2_with fail
            refine cN.mono ?_
            rintro e w7 (⟨nm, r, hx, rfl, hr⟩ | ⟨m, e, hx, rfl, hr⟩)
            · have hsuf := (HFN.out.1 _ _ hx).1
              have hlen := (HFN.out.1 _ _ hx).2
              rw [rest_len] at hlen
              have hpos := rest_pos hsuf hus
              have hre := rest_suf hsuf
              obtain ⟨u7, hu⟩ : ∃ u7, s.size - r.length = u7 := ⟨_, rfl⟩
              rw [hu] at hr hpos hre
              have HE3 : Hid (RES = (if hasName out nm then .error (s.size - u, 6) else match X.must [61] (X.skip (rest s u7)) with
                  | .error e => .error e
                  | .ok (_, r2) => match X.value (X.skip r2) with
                    | .error e => .error e
                    | .ok (v, r3) => X.attrs k (out ++ [⟨nm.1, nm.2, s.size - u, v⟩]) r3)) := by
                show _ = _
                rw [HE2.out, attr_seq hx (fun x r => X.attrs k (out ++ [x]) r), hre, rest_len]
              have HX7 : Hid (w7.heap[Y]? = some (.cells #[.string ⟨#[]⟩, .string ⟨#[]⟩, .int .i64 u, .string ⟨#[]⟩] 111 (0, 0))) := by
                show _ = _
                rw [hr.g.block Y (Go.lt_of_block HX6.out) (fun e => HRY.out (Option.some.inj e).symm)]; exact HX6.out
              have H7 := hid (H6.out.trans hr)
              have HO7 := hid (HO6.out.grown hr.g HLT.out)
              have HU7 : Hid (u < u7 ∧ u7 ≤ s.size) := by show _ ∧ _; omega
              obtain ⟨x0, x1, -, -⟩ := row4 HX7.out
              obtain ⟨f0, f1, -, -⟩ := free4 HX7.out
              unfold nameV
              clear hx hr hsuf hlen hpos hre hu cN HFN HE2 H6 HO6 HX6
              obtain ⟨w8, hw8⟩ : ∃ w8, (w7.setCell ⟨Y, 0, none⟩ (.string (X.ba nm.1))).setCell ⟨Y, 1, none⟩ (.string (X.ba nm.2)) = w8 := ⟨_, rfl⟩
              have HX8 : Hid (w8.heap[Y]? = some (.cells #[.string (X.ba nm.1), .string (X.ba nm.2), .int .i64 u, .string ⟨#[]⟩] 111 (0, 0))) := by show _ = _; rw [← hw8]; exact row_set (row_set HX7.out 0 _) 1 _
              have H8 : Hid (Rd W R s u7 c w8) := by show Rd _ _ _ _ _ _; rw [← hw8]; exact (H7.out.put HY.out.2 0 _).put HY.out.2 1 _
              have HO8 : Hid (ROwn s W.heap.size out (.slice va n vc) w8) := by show ROwn _ _ _ _ _; rw [← hw8]; exact (HO7.out.put HY.out.1 0 _).put HY.out.1 1 _
              have HW8 := hid hw8
              obtain ⟨y0, y1, -, -⟩ := row4 HX8.out
              have cC := containsFunc_any s out (.slice va n vc) Y nm (by rw [HN.out]; omega) w8 (RawsIn.of HO8.out) y0 y1
              clear hw8 H7 HO7
              go_upto_region 14 with fail
              rw [HW8.out]
              clear HW8 HX7 x0 x1 f0 f1 y0 y1
              obtain ⟨hb, hhb⟩ : ∃ hb, hasName out nm = hb := ⟨_, rfl⟩
              rw [hhb] at cC HE3
              clear hhb
              go_wp2_with fail
              refine cC.mono ?_
              rintro e w9 ⟨rfl, g3⟩
              have H9 := hid (H8.out.below g3)
              have HO9 := hid (HO8.out.below g3)
              have HX9 : Hid (w9.heap[Y]? = some (.cells #[.string (X.ba nm.1), .string (X.ba nm.2), .int .i64 u, .string ⟨#[]⟩] 111 (0, 0))) := by show _ = _; rw [g3.block Y (Go.lt_of_block HX8.out)]; exact HX8.out
              clear g3 cC H8 HO8 HX8
              cases hb with
              | true =>
                have HE4 : Hid (RES = .error (s.size - u, 6) ∧ s.size - (s.size - u) = u) := ⟨by rw [HE3.out]; rfl, by omega⟩
                obtain ⟨-, -, y2, -⟩ := row4 HX9.out
                have cF := fun U => fail_any 6 (u : Int) U
                clear HE3
                go_wp2_with fail
                refine (cF _).mono ?_
                rintro en w10 ⟨rfl, rfl⟩
                exact ⟨rfl, Or.inr ⟨_, _, HE4.out.1, by rw [HE4.out.2], H9.out.g⟩⟩
              | false =>
                have cBl := blanks_any H9.out.own HU7.out.2 hs
                have hsk := X.Suf.skip (rest s u7)
                have hpos := rest_pos hsk HU7.out.2
                have hre := rest_suf hsk
                obtain ⟨u8, hu⟩ : ∃ u8, s.size - (X.skip (rest s u7)).length = u8 := ⟨_, rfl⟩
                rw [hu] at cBl hpos hre
                have HE4 : Hid (RES = match X.must [61] (rest s u8) with
                  | .error e => .error e
                  | .ok (_, r2) => match X.value (X.skip r2) with
                    | .error e => .error e
                    | .ok (v, r3) => X.attrs k (out ++ [⟨nm.1, nm.2, s.size - u, v⟩]) r3) := by
                  show _ = _
                  rw [HE3.out, ← hre]
                  rfl
                have HU8 : Hid (u < u8 ∧ u8 ≤ s.size) := by have := HU7.out; show _ ∧ _; omega
                clear hsk hpos hre hu HE3
                go_wp2_with fail
                refine cBl.mono ?_
                rintro e w10 ⟨rfl, g3⟩
                have H10 := hid (H9.out.trans g3)
                have HO10 := hid (HO9.out.grown g3.g HLT.out)
                have HX10 : Hid (w10.heap[Y]? = some (.cells #[.string (X.ba nm.1), .string (X.ba nm.2), .int .i64 u, .string ⟨#[]⟩] 111 (0, 0))) := by show _ = _; rw [g3.g.block Y (Go.lt_of_block HX9.out) (fun e => HRY.out (Option.some.inj e).symm)]; exact HX9.out
                have cM := must_l [61] ⟨#[61]⟩ rfl H10.out.own HU8.out.2 hs
                have HFM := hid (X.must_fair [61] (rest s u8))
                clear g3 cBl H9 HO9 HX9
                go_wp2_with fail
                refine cM.mono ?_
                rintro e w11 (⟨_, r, hx, rfl, hr⟩ | ⟨m, e, hx, rfl, hr⟩)
                · have hsuf := (HFM.out.1 _ _ hx).1
                  have hpos := rest_pos hsuf HU8.out.2
                  have hre := rest_suf hsuf
                  obtain ⟨u9, hu⟩ : ∃ u9, s.size - r.length = u9 := ⟨_, rfl⟩
                  rw [hu] at hr hpos hre
                  have HE5 : Hid (RES = match X.value (X.skip (rest s u9)) with
                    | .error e => .error e
                    | .ok (v, r3) => X.attrs k (out ++ [⟨nm.1, nm.2, s.size - u, v⟩]) r3) := by
                    show _ = _
                    rw [HE4.out, hx, ← hre]
                  have H11 := hid (H10.out.trans hr)
                  have HO11 := hid (HO10.out.grown hr.g HLT.out)
                  have HX11 : Hid (w11.heap[Y]? = some (.cells #[.string (X.ba nm.1), .string (X.ba nm.2), .int .i64 u, .string ⟨#[]⟩] 111 (0, 0))) := by show _ = _; rw [hr.g.block Y (Go.lt_of_block HX10.out) (fun e => HRY.out (Option.some.inj e).symm)]; exact HX10.out
                  have HU9 : Hid (u < u9 ∧ u9 ≤ s.size) := by have := HU8.out; show _ ∧ _; omega
                  clear hx hr hsuf hpos hre hu cM HFM HE4 H10 HO10 HX10
                  have cBl := blanks_any H11.out.own HU9.out.2 hs
                  have hsk := X.Suf.skip (rest s u9)
                  have hpos := rest_pos hsk HU9.out.2
                  have hre := rest_suf hsk
                  obtain ⟨u10, hu⟩ : ∃ u10, s.size - (X.skip (rest s u9)).length = u10 := ⟨_, rfl⟩
                  rw [hu] at cBl hpos hre
                  have HU10 : Hid (u < u10 ∧ u10 ≤ s.size) := by have := HU9.out; show _ ∧ _; omega
                  rw [hre] at HE5
                  clear hsk hpos hre hu
                  go_wp2_with fail
                  refine cBl.mono ?_
                  rintro e w12 ⟨rfl, g3⟩
                  have H12 := hid (H11.out.trans g3)
                  have HO12 := hid (HO11.out.grown g3.g HLT.out)
                  have HX12 : Hid (w12.heap[Y]? = some (.cells #[.string (X.ba nm.1), .string (X.ba nm.2), .int .i64 u, .string ⟨#[]⟩] 111 (0, 0))) := by show _ = _; rw [g3.g.block Y (Go.lt_of_block HX11.out) (fun e => HRY.out (Option.some.inj e).symm)]; exact HX11.out
                  have cV := value_any H12.out.own HU10.out.2 hs (HG.out.rd H12.out hB) hB
                  have HFV := hid (X.value_fair (rest s u10))
                  clear g3 cBl H11 HO11 HX11
                  go_wp2_with fail
                  refine cV.mono ?_
                  rintro e w13 (⟨val, r, hx, rfl, hr⟩ | ⟨m, e, hx, rfl, hr⟩)
                  · have hsuf := (HFV.out.1 _ _ hx).1
                    have hpos := rest_pos hsuf HU10.out.2
                    have hre := rest_suf hsuf
                    obtain ⟨u11, hu⟩ : ∃ u11, s.size - r.length = u11 := ⟨_, rfl⟩
                    rw [hu] at hr hpos hre
                    have HE6 : Hid (RES = X.attrs k (out ++ [⟨nm.1, nm.2, s.size - u, val⟩]) (rest s u11)) := by
                      show _ = _
                      rw [HE5.out, hx, ← hre]
                    have HX13 : Hid (w13.heap[Y]? = some (.cells #[.string (X.ba nm.1), .string (X.ba nm.2), .int .i64 u, .string ⟨#[]⟩] 111 (0, 0))) := by show _ = _; rw [hr.g.block Y (Go.lt_of_block HX12.out) (fun e => HRY.out (Option.some.inj e).symm)]; exact HX12.out
                    have HU11 : Hid (u < u11 ∧ u11 ≤ s.size) := by have := HU10.out; show _ ∧ _; omega
                    obtain ⟨w14, hw14⟩ : ∃ w14, w13.setCell ⟨Y, 3, none⟩ (.string (X.ba val)) = w14 := ⟨_, rfl⟩
                    have HX14 : Hid (w14.heap[Y]? = some (.cells #[.string (X.ba nm.1), .string (X.ba nm.2), .int .i64 u, .string (X.ba val)] 111 (0, 0))) := by show _ = _; rw [← hw14]; exact row_set HX13.out 3 _
                    have H14 : Hid (Rd W R s u11 c w14) := by show Rd _ _ _ _ _ _; rw [← hw14]; exact (H12.out.trans hr).put HY.out.2 3 _
                    have HO14 : Hid (ROwn s W.heap.size out (.slice va n vc) w14) := by show ROwn _ _ _ _ _; rw [← hw14]; exact (HO12.out.grown hr.g HLT.out).put HY.out.1 3 _
                    obtain ⟨-, -, -, y3⟩ := row4 HX13.out
                    obtain ⟨-, -, -, f3⟩ := free4 HX13.out
                    have HW14 := hid hw14
                    clear hx hr hsuf hpos hre hu cV HFV HE5 H12 HO12 HX12 hw14
                    go_upto_region 20 with fail
                    rw [HW14.out]
                    clear HW14 HX13 y3 f3
                    obtain ⟨y0, y1, y2, y3⟩ := row4 HX14.out
                    obtain ⟨w15, hw15⟩ : ∃ w15, w14.alloc (.cells #[.string (X.ba nm.1), .string (X.ba nm.2), .int .i64 u, .string (X.ba val)] 111) = w15 := ⟨_, rfl⟩
                    have hT : w15.heap[w14.heap.size]? = some (.cells #[.string (X.ba nm.1), .string (X.ba nm.2), .int .i64 u, .string (X.ba val)] 111 (0, 0)) := by rw [← hw15]; exact heap_alloc_new w14 _
                    have H15 : Hid (Rd W R s u11 c w15) := by show Rd _ _ _ _ _ _; rw [← hw15]; exact H14.out.alloc _
                    have HO15 : Hid (ROwn s W.heap.size out (.slice va n vc) w15) := by show ROwn _ _ _ _ _; rw [← hw15]; exact HO14.out.below ((Below.refl _ w14).alloc (Nat.le_refl _) _)
                    obtain ⟨Z, hZ⟩ : ∃ Z, w14.heap.size = Z := ⟨_, rfl⟩
                    rw [hZ] at hT
                    have HZ : Hid (W.heap.size ≤ w15.heap.size) := H15.out.g.size
                    have HNEW : Hid (rawC s ⟨nm.1, nm.2, s.size - u, val⟩ = [.string (X.ba nm.1), .string (X.ba nm.2), .int .i64 u, .string (X.ba val)]) := by
                      show _ = _
                      unfold rawC
                      simp only
                      rw [show s.size - (s.size - u) = u by omega]
                    have hown : w15.ownsRow W.heap.size 111 4 (.slice va n vc) n (rawsC s out) := by have := HO15.out; unfold ROwn at this; rw [HN.out] at this; exact this
                    have hnews := World.news_of_block hT
                    obtain ⟨i0, hi, hz0, hz1, hz2⟩ := info_parts infoRaw
                    have HW15 := hid hw15
                    have HZE := hid hZ
                    clear hw15 hZ
                    go_wp2_with (at_builtin; (try rw [HW15.out, HZE.out]); refine wpList_append_own _ rfl _ _ 77 rfl W.heap.size 111 i0 _ 4 56 Tryz.underlying77 hi hz0 hz1 hz2 rfl (by decide) (.slice va n vc) n (rawsC s out) rfl hown ⟨Z, 0, none⟩ 1 1 [.string (X.ba nm.1), .string (X.ba nm.2), .int .i64 u, .string (X.ba val)] rfl rfl hnews (by intro u hu; simp at hu; rcases hu with rfl | rfl | rfl | rfl <;> rfl) (by unfold maxLen; omega) (by omega) HZ.out ?_)
                    intro v' w16 hown1 hgrow hat
                    have hl1 : (out ++ [(⟨nm.1, nm.2, s.size - u, val⟩ : X.Raw)]).length = n + 1 := by rw [List.length_append, HN.out]; rfl
                    have hsh : ∃ a c, v' = .slice a (out ++ [(⟨nm.1, nm.2, s.size - u, val⟩ : X.Raw)]).length c := by
                      rw [hl1]
                      rcases hown1.2 with ⟨rfl, h0⟩ | ⟨g, cap, cur, rfl, _⟩
                      · exact absurd h0 (by omega)
                      · exact ⟨_, _, rfl⟩
                    have HO16 : Hid (ROwn s W.heap.size (out ++ [(⟨nm.1, nm.2, s.size - u, val⟩ : X.Raw)]) v' w16) := by
                      show World.ownsRow _ _ _ _ _ _ _
                      rw [hl1, rawsC_snoc, HNEW.out]
                      exact hown1
                    have H16 : Hid (Rd W R s u11 c w16) := H15.out.build ((Below.refl _ w15).grown hgrow HZ.out (fun k hk => (World.ownsRow.lt hown k hk).1)) (Nat.le_refl _)
                    obtain ⟨va', vc', rfl⟩ := hsh
                    have HI16 : Hid (s.size - u11 < k ∧ u11 ≤ s.size ∧ (out ++ [(⟨nm.1, nm.2, s.size - u, val⟩ : X.Raw)]).length ≤ 32 ∧ X.attrs k (out ++ [(⟨nm.1, nm.2, s.size - u, val⟩ : X.Raw)]) (rest s u11) = RES) := by
                      refine ⟨?_, HU11.out.2, by rw [hl1]; omega, HE6.out.symm⟩
                      have := HI.out.1
                      have := HU.out
                      have := HU11.out
                      omega
                    have HM : Hid (s.size - u11 < s.size - q) := by
                      have := HU.out
                      have := HU11.out
                      show _ < _
                      omega
                    clear hl1 hown1 hgrow hat hown hnews hT hi hz0 hz1 hz2 HNEW y0 y1 y2 y3
                    go_wp2_with fail
                    go_roundw
                    case rel => exact ⟨u11, k, _, va', vc', rfl, HI16, H16, HO16⟩
                    case measure => rw [H16.out.pos, HPOS.out]; exact HM.out
                  · have HE6 : Hid (RES = .error (m, e)) := by show _ = _; rw [HE5.out, hx]
                    exact ⟨rfl, Or.inr ⟨_, _, HE6.out, rfl, H12.out.g.trans hr⟩⟩
                · have HE5 : Hid (RES = .error (m, e)) := by show _ = _; rw [HE4.out, hx]
                  exact ⟨rfl, Or.inr ⟨_, _, HE5.out, rfl, H10.out.g.trans hr⟩⟩
            · have HE3 : Hid (RES = .error (m, e)) := by show _ = _; rw [HE2.out, X.attr, hx]
              exact ⟨rfl, Or.inr ⟨_, _, HE3.out, rfl, H6.out.g.trans hr⟩⟩
end Go.Proofs.YtakplnceiibmlaaGreatDoor
