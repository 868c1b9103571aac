/- The reader: what is in an element. -/
import Derived.Test.YtakplnceiibmlaaGreatDoorMMem
import Derived.Test.YtakplnceiibmlaaGreatDoorTill
import Derived.Deep.RegionHeld3
namespace Go.Proofs.YtakplnceiibmlaaGreatDoor
open Go.RowKit
open Go.Lib (hid)
theorem atF_apart {T e : TypeId} {B b : Nat} {p : Value} {bs : List Value} {W W' : World} {row : Option Nat} (h : Lib.BuilderAtF T e B b p bs W) (hg : W.grownBy W' row) (hb : some b ≠ row) (hr : ∀ k, row = some k → ∃ cs t fz, W.heap[k]? = some (.cells cs t fz) ∧ t ≠ e) : Lib.BuilderAtF T e B b p bs W' := by
  have hlt := h.lt
  obtain ⟨hB, v, hv, hown, hne⟩ := h
  refine ⟨hB, v, (hg.block b hlt hb).trans hv, hown.kept hg ?_, hne⟩
  rcases hown.2 with ⟨rfl, _⟩ | ⟨g, cap, cur, fz, rfl, _, hgr, _⟩
  · exact Or.inl rfl
  · refine Or.inr fun hk => ?_
    obtain ⟨cs, t, fz', h1, h2⟩ := hr g hk.symm
    rw [hgr] at h1
    simp only [Option.some.injEq, Obj.cells.injEq] at h1
    exact h2 h1.2.1.symm
/-- whatever happens to a row of other things, a builder holds what it did -/
theorem Holds.apart {B b : Nat} {l : List UInt8} {W W' : World} {row : Option Nat} (h : Holds B b l W) (hg : W.grownBy W' row) (hb : some b ≠ row) (hr : ∀ k, row = some k → ∃ cs t fz, W.heap[k]? = some (.cells cs t fz) ∧ t ≠ 5) : Holds B b l W' :=
  h.elim (fun x => .inl (atF_apart x hg hb hr)) (fun x => .inr (atF_apart x hg hb hr))
/-- how element ends -/
def ElemOf (W0 : World) (R : Nat) (s : ByteArray) (x : X.Res (X.E × Nat)) (en : Ending) (W : World) : Prop :=
  (∃ e c' r cs, x = .ok ((e, c'), r) ∧ en = .returned (.agg cs.toArray) ∧ e.Has W (OwnN W W0.heap.size none) cs ∧ c' ≤ 1024 ∧ Rd W0 R s (s.size - r.length) c' W) ∨
  (∃ n er, x = .error (n, er) ∧ en = .panicked (chain er ((s.size - n : Nat) : Int)) ∧ W0.grownBy W (some R))
/-- the contract of element where d may still stand in one another -/
def ElemC (G R : Nat) (s : ByteArray) (d deep : Nat) : Prop := ∀ (p c : Nat) (W : World) (M N : Nat) (known : X.K), Rd W R s p c W → p ≤ s.size → c ≤ 1024 → Ground G W → KM W M N known → M ≠ R → N ≤ 2 + 32 * deep →
  Calls Tryz.prog 22 #[.pointer (some ⟨R, 0, none⟩), .int .i64 deep, .map (some M)] W (ElemOf W R s (X.elem s.data.toList d known c (rest s p)))
/-- how inside ends -/
def InsOf (W0 : World) (R : Nat) (s : ByteArray) (x : X.Res ((List UInt8 × X.N) × Nat)) (en : Ending) (W : World) : Prop :=
  (∃ tx ks c' r kv, x = .ok (((tx, ks), c'), r) ∧ en = .returned (.tuple #[.string (X.ba tx), kv]) ∧ ks.In W (OwnN W W0.heap.size none) kv ∧ c' ≤ 1024 ∧ Rd W0 R s (s.size - r.length) c' W) ∨
  (∃ n er, x = .error (n, er) ∧ en = .panicked (chain er ((s.size - n : Nat) : Int)) ∧ W0.grownBy W (some R))
/-- what inside's loop keeps: the reader, the name, the builder, the elements, the map -/
structure IS (W : World) (R H M N : Nat) (s : ByteArray) (tag : List UInt8 × List UInt8) (known : X.K) (q c : Nat) (tx : List UInt8) (ks : X.N) (v : Value) (wr : World) : Prop where
  h : W.heap.size = H
  rd : Rd W R s q c wr
  nm : wr.heap[H]? = some (nameRow tag)
  ho : Holds (H + 1) (H + 1) tx wr
  ko : KOwn (H + 2) ks v wr
  km : KM wr M N known
  hM : M < H
  hR : M ≠ R
section
variable {W wr w' : World} {R H M N q c : Nat} {s : ByteArray} {tag : List UInt8 × List UInt8} {known : X.K} {tx : List UInt8} {ks : X.N} {v : Value}
theorem IS.rH (h : IS W R H M N s tag known q c tx ks v wr) : R < H := by have := h.rd.lt; have := h.h; omega
theorem IS.rdr (h : IS W R H M N s tag known q c tx ks v wr) {q' c' : Nat} (g : Rd wr R s q' c' w') : IS W R H M N s tag known q' c' tx ks v w' := by
  have hr := h.rH
  exact ⟨h.h, h.rd.trans g, (g.g.block H (Go.lt_of_block h.nm) (fun e => by have := Option.some.inj e; omega)).trans h.nm, h.ho.grown g.g (by omega), h.ko.keep (KeepN.grown g.g (by omega)), h.km.grown g.g (fun e => h.hR (Option.some.inj e).symm), h.hM, h.hR⟩
theorem IS.below (h : IS W R H M N s tag known q c tx ks v wr) (hb : Below wr.heap.size wr w') : IS W R H M N s tag known q c tx ks v w' :=
  ⟨h.h, h.rd.below hb, (hb.block H (Go.lt_of_block h.nm)).trans h.nm, h.ho.after hb, h.ko.keep (KeepN.below hb _), h.km.below hb, h.hM, h.hR⟩
theorem IS.text (h : IS W R H M N s tag known q c tx ks v wr) {tx' : List UInt8} (gh : Holds (H + 1) (H + 1) tx' w') (gb : Below (H + 1) wr w') (gk : Kept (H + 1) wr w') : IS W R H M N s tag known q c tx' ks v w' := by
  have hh := h.h
  have hm := h.hM
  refine ⟨h.h, h.rd.build gb (by omega), (gb.block H (by omega)).trans h.nm, gh, h.ko.keep (KeepN.bytes gk gb.size (by omega)), ?_, h.hM, h.hR⟩
  obtain ⟨es, clock, h1, h2, h3, h4⟩ := h.km
  exact ⟨es, clock, (gb.block M (by omega)).trans h1, h2, h3, h4⟩
end
set_option maxRecDepth 100000 in
set_option maxHeartbeats 8000000 in
theorem inside_any {R p c G M N d deep f : Nat} {s : ByteArray} {W : World} {known : X.K} (tag : List UInt8 × List UInt8) (hE : ElemC G R s d (deep + 1)) (hdeep : deep < 16) (hf : s.size - p < f) (h : Rd W R s p c W) (hp : p ≤ s.size) (hs : s.size ≤ 1000000000000) (hc : c ≤ 1024) (hG : Ground G W) (hGR : G ≤ R) (hK : KM W M N known) (hMR : M ≠ R) (hN : N ≤ 2 + 32 * (deep + 1)) :
    Calls Tryz.prog 40 #[.pointer (some ⟨R, 0, none⟩), nameV tag, .int .i64 deep, .map (some M)] W (InsOf W R s (X.inside (X.elem s.data.toList d known) tag f c [] .nil (rest s p))) := by
  obtain ⟨el, hel⟩ : ∃ el, X.elem s.data.toList d known = el := ⟨_, rfl⟩
  have HEL := hid hel
  have HEF : Hid (∀ c l, X.Fair 1 l (el c l)) := by intro c l; rw [← hel]; exact X.elem_fair _ _ _ _ _
  rw [hel]
  obtain ⟨RES, hRES⟩ : ∃ x, X.inside el tag f c [] .nil (rest s p) = x := ⟨_, rfl⟩
  rw [hRES]
  unfold nameV
  obtain ⟨H, hH⟩ : ∃ H, W.heap.size = H := ⟨_, rfl⟩
  obtain ⟨w1, hw1⟩ : ∃ w1, (W.alloc (.cells #[.string (X.ba tag.1), .string (X.ba tag.2)] 75)).alloc (.cells #[.pointer none, .slice none 0 0] 117) = w1 := ⟨_, rfl⟩
  have HI0 : Hid (s.size - p < f ∧ p ≤ s.size ∧ ([] : List UInt8).length ≤ 4 * p ∧ X.N.nil.length ≤ p ∧ c ≤ 1024 ∧ X.inside el tag f c [] .nil (rest s p) = RES) := ⟨hf, hp, Nat.zero_le _, Nat.zero_le _, hc, hRES⟩
  have HS1 : Hid (IS W R H M N s tag known p c [] .nil (.slice none 0 0) w1) := by
    show IS _ _ _ _ _ _ _ _ _ _ _ _ _ _
    have hs0 : (W.alloc (.cells #[.string (X.ba tag.1), .string (X.ba tag.2)] 75)).heap.size = H + 1 := by rw [← hH]; simp
    have hb0 : Below W.heap.size W (W.alloc (.cells #[.string (X.ba tag.1), .string (X.ba tag.2)] 75)) := (Below.refl _ W).alloc (Nat.le_refl _) _
    have hb1 : Below W.heap.size W w1 := by rw [← hw1]; exact hb0.alloc (by simp) _
    have h0 := heap_alloc_new W (.cells #[.string (X.ba tag.1), .string (X.ba tag.2)] 75)
    have hh := holds_fresh (W.alloc (.cells #[.string (X.ba tag.1), .string (X.ba tag.2)] 75))
    rw [hw1, hs0] at hh
    rw [hH] at h0
    refine ⟨hH, h.below hb1, ?_, hh, KOwn.nil _ _, hK.below hb1, ?_, hMR⟩
    · rw [← hw1, Go.Lib.alloc_old _ _ H (by rw [hs0]; omega)]; exact h0
    · obtain ⟨es, clock, hm1, _⟩ := hK
      have := Go.lt_of_block hm1
      omega
  have HELC := hid hE
  have HG := hid hG
  have HW1 := hid hw1
  have HH := hid hH
  clear hE h hp hf hc hG hK hRES hw1 hH hMR hel
  go_enter Tryz.func40, Tryz.ntmps40
  go_upto_region 2 with fail
  rw [HH.out] 
  rw [HW1.out]
  clear HW1
  go_wp2_with fail
  go_loopw [11, 12] (fun v v12 wr => ∃ (q k c : Nat) (tx : List UInt8) (ks : X.N) (va : Option Addr) (vc : Nat), v = .slice va ks.length vc ∧ Hid (s.size - q < k ∧ q ≤ s.size ∧ tx.length ≤ 4 * q ∧ ks.length ≤ q ∧ c ≤ 1024 ∧ X.inside el tag k c tx ks (rest s q) = RES) ∧ Hid (IS W R H M N s tag known q c tx ks v wr)) (fun _ _ wr => s.size - posOf wr R)
  case atStart => exact ⟨_, _, _, [], .nil, none, 0, rfl, HI0, HS1⟩
  case round =>
    obtain ⟨q, k, c, tx, ks, va, vc, rfl, HI, HS⟩ := hrel
    clear HI0 HS1
    obtain ⟨h1, h2, h4, h5, h6, h3⟩ := HI.out
    obtain ⟨k, rfl⟩ : ∃ k', k = k' + 1 := ⟨k - 1, by omega⟩
    have HPOS := hid HS.out.rd.pos
    have cT := take_l (k := 2) [60, 47] ⟨#[60, 47]⟩ rfl rfl HS.out.rd.own h2 hs
    have HE0 : Hid (RES = X.inside el tag (k + 1) c tx ks (rest s q)) := h3.symm
    clear h1 h3
    go_wp2_with fail
    refine cT.mono ?_
    rintro e w2 (⟨g1, g2, rfl, g3⟩ | ⟨g1, rfl, g3⟩)
    · have HE : Hid (RES = (match X.close tag (rest s (q + 2)) with | .error e => .error e | .ok (_, r) => .ok (((tx, ks), c), r))) := by
        show _ = _
        rw [HE0.out, X.inside, if_pos g1, rest_drop]
        rfl
      have H2 := hid (HS.out.rdr g3)
      clear g1 g3 cT HE0
      obtain ⟨c0, c1, -⟩ := H2.out.rd.cells
      obtain ⟨q2, hq2⟩ : ∃ q2, q + 2 = q2 := ⟨_, rfl⟩
      rw [hq2] at H2 g2 HE c1
      have HQ2 := hid hq2
      clear hq2
      have HD : Hid (IS W R H M N s tag known q2 c tx ks (.slice va ks.length vc) w2.drew) := H2.out.below (Below.refl _ _).drew
      have cN := name_any HD.out.rd.own g2 hs
      have HF := hid (X.name_fair (rest s q2))
      have hnm := H2.out.nm
      unfold nameRow at hnm
      obtain ⟨t1, ht1⟩ : ∃ t1, X.ba tag.1 = t1 := ⟨_, rfl⟩
      obtain ⟨t2, ht2⟩ : ∃ t2, X.ba tag.2 = t2 := ⟨_, rfl⟩
      have hl1 : t1.toList = tag.1 := by rw [← ht1]; exact ba_toList _
      have hl2 : t2.toList = tag.2 := by rw [← ht2]; exact ba_toList _
      rw [ht1, ht2] at hnm ⊢
      obtain ⟨n0, n1⟩ := row2 hnm
      have HNM2 : Hid (w2.drew.heap[H]? = some (.cells #[.string t1, .string t2] 75 (0, 0))) := hnm
      have HRH : Hid (H ≠ R) := by have := H2.out.rH; show _ ≠ _; omega
      clear hnm ht1 ht2
      cases hx : X.name (rest s q2) with
      | error z =>
        obtain ⟨n, e0⟩ := z
        have HCN : Hid (Calls Tryz.prog 37 #[.pointer (some ⟨R, 0, none⟩)] w2.drew fun en W' => en = .panicked (chain e0 ((s.size - n : Nat) : Int)) ∧ w2.drew.grownBy W' (some R)) := by
          refine cN.mono ?_
          rintro en W' (⟨nm, r, h1, h2, h3⟩ | ⟨m, e, h1, h2, h3⟩)
          · rw [hx] at h1; cases h1
          · rw [hx] at h1; cases h1; exact ⟨h2, h3⟩
        have HE2 : Hid (RES = .error (n, e0)) := by show _ = _; rw [HE.out, X.close, hx]
        clear cN hx HF
        go_wp2_with fail
        refine wp_region_till (S := (fun w : World => w.heap[H]? = some (.cells #[.string t1, .string t2] 75 (0, 0)))) 5 (by kernel_rfl) ?_
        have HS := hid (show ((fun w : World => w.heap[H]? = some (.cells #[.string t1, .string t2] 75 (0, 0)))) _ from HNM2.out)
        refine wpTill_any 0 (oi := ?oi1) (v := ?v1) ?ho1 (by kernel_rfl) (by kernel_rfl) (by kernel_rfl) (by kernel_rfl) ?hq1 (Or.inl ⟨?hw1, ?hy1⟩) (fun _ => HS.out) ?rest1
        case ho1 => simp only [List.getElem?_toArray, List.getElem?_cons_zero]; rfl
        case hw1 => rfl
        case hy1 => intro w; go_simp; try with_reducible rfl
        case hq1 => exact fun _ _ _ h => h
        try simp only [Act.put, List.setIfInBounds_toArray, List.set_cons_zero, List.set_cons_succ]
        refine wpTill_any 1 (oi := ?oi2) (v := ?v2) ?ho2 (by kernel_rfl) (by kernel_rfl) (by kernel_rfl) (by kernel_rfl) ?hq2 (Or.inl ⟨?hw2, ?hy2⟩) (fun _ => HS.out) ?rest2
        case ho2 => simp only [List.getElem?_toArray, List.getElem?_cons_succ, List.getElem?_cons_zero]; rfl
        case hw2 => rfl
        case hy2 => intro w; go_simp; try with_reducible rfl
        case hq2 => exact fun _ _ _ h => h
        try simp only [Act.put, List.setIfInBounds_toArray, List.set_cons_zero, List.set_cons_succ]
        refine wpTill_any 2 (oi := ?oi3) (v := ?v3) ?ho3 (by kernel_rfl) (by kernel_rfl) (by kernel_rfl) (by kernel_rfl) ?hq3 (Or.inl ⟨?hw3, ?hy3⟩) (fun _ => HS.out) ?rest3
        case ho3 => simp only [List.getElem?_toArray, List.getElem?_cons_succ, List.getElem?_cons_zero]; rfl
        case hw3 => rfl
        case hy3 => intro w; go_simp; try with_reducible rfl
        case hq3 => exact fun _ _ _ h => h
        try simp only [Act.put, List.setIfInBounds_toArray, List.set_cons_zero, List.set_cons_succ]
        refine wpTill_load 4 [4, 5] (oi := ?oi4) (v := ?v4) ?ho4 (by kernel_rfl) (by kernel_rfl) (by kernel_rfl) (by kernel_rfl) ?hq4 (Or.inl ⟨?hw4, ?hy4⟩) HS.out ?rest4
        case ho4 => simp only [List.getElem?_toArray, List.getElem?_cons_succ, List.getElem?_cons_zero]; rfl
        case hw4 => rfl
        case hy4 =>
          intro w hSw
          obtain ⟨m0, m1⟩ := row2 hSw
          clear hSw
          go_simp
          try with_reducible rfl
        case hq4 => exact fun _ _ _ h => h
        try simp only [Act.put, List.setIfInBounds_toArray, List.set_cons_zero, List.set_cons_succ]
        refine wpTill_ready (rs := [3]) (by kernel_rfl) (by decide) ?_
        refine AllTill.consH (o := ?oi5) ?ho5 (fun K hK => ?step5) ?more5
        case ho5 => simp only [List.getElem?_toArray, List.getElem?_cons_succ, List.getElem?_cons_zero]; rfl
        case step5 =>
          go_simp
          refine (HCN.out).mono ?_
          rintro e w3 ⟨rfl, hr⟩
          exact ⟨rfl, Or.inr ⟨_, _, HE2.out, rfl, HD.out.rd.g.trans hr⟩⟩
        case more5 =>
          exact AllTill.nil
      | ok z =>
        obtain ⟨nm, r⟩ := z
        have hsuf := (HF.out.1 _ _ hx).1
        have hpos := rest_pos hsuf g2
        have hre := rest_suf hsuf
        obtain ⟨u, hu⟩ : ∃ u, s.size - r.length = u := ⟨_, rfl⟩
        rw [hu] at hpos hre
        obtain ⟨a1, ha1⟩ : ∃ a1, X.ba nm.1 = a1 := ⟨_, rfl⟩
        obtain ⟨a2, ha2⟩ : ∃ a2, X.ba nm.2 = a2 := ⟨_, rfl⟩
        have hm1 : a1.toList = nm.1 := by rw [← ha1]; exact ba_toList _
        have hm2 : a2.toList = nm.2 := by rw [← ha2]; exact ba_toList _
        have HCN : Hid (Calls Tryz.prog 37 #[.pointer (some ⟨R, 0, none⟩)] w2.drew fun en W' => en = .returned (.agg #[.string a1, .string a2]) ∧ Rd w2.drew R s u c W') := by
          refine cN.mono ?_
          rintro en W' (⟨nm', r', h1, h2, h3⟩ | ⟨m, e, h1, h2, h3⟩)
          · rw [hx] at h1; cases h1
            rw [hu] at h3
            refine ⟨?_, h3⟩
            rw [h2, nameV, ha1, ha2]
          · rw [hx] at h1; cases h1
        have HE1 : Hid (RES = (if nm ≠ tag then .error (s.size - q2, 81) else match X.must [62] (X.skip (rest s u)) with | .error e => .error e | .ok (_, r) => .ok (((tx, ks), c), r))) := by
          show _ = _
          rw [HE.out, X.close, hx]
          simp only
          rw [rest_len, hre]
          by_cases hh : nm ≠ tag
          · rw [if_pos hh, if_pos hh]
          · rw [if_neg hh, if_neg hh]
        clear cN hx HF ha1 ha2 HE hre hu
        have hcas : (a1.toList = t1.toList ∧ a2.toList = t2.toList) ∨ (a1.toList = t1.toList ∧ ¬ a2.toList = t2.toList) ∨ ¬ a1.toList = t1.toList := by
          by_cases k1 : a1.toList = t1.toList
          · by_cases k2 : a2.toList = t2.toList
            · exact Or.inl ⟨k1, k2⟩
            · exact Or.inr (Or.inl ⟨k1, k2⟩)
          · exact Or.inr (Or.inr k1)
        rcases hcas with ⟨k1, k2⟩ | ⟨k1, k2⟩ | k1
        · have HE2 : Hid (RES = (match X.must [62] (X.skip (rest s u)) with | .error e => .error e | .ok (_, r) => .ok (((tx, ks), c), r))) := by
            show _ = _
            rw [HE1.out, if_neg]
            intro hh
            exact hh (Prod.ext (by rw [← hm1, ← hl1]; exact k1) (by rw [← hm2, ← hl2]; exact k2))
          have b1 : (a1.toList == t1.toList) = true := by rw [k1]; simp
          have b2 : (a2.toList == t2.toList) = true := by rw [k2]; simp
          clear k1 k2 HE1 hm1 hm2 hl1 hl2
          go_wp2_with fail
          go_region_with (go_at_call 37; refine (HCN.out).mono ?_; rintro e w3 ⟨rfl, hr⟩; (have hnm3 : w3.heap[H]? = some (.cells #[.string t1, .string t2] 75 (0, 0)) := (hr.g.block H (Go.lt_of_block HNM2.out) (fun e => HRH.out (Option.some.inj e))).trans HNM2.out; obtain ⟨m0, m1⟩ := row2 hnm3))
          all_goals
            have H3 := hid (HD.out.rdr hr)
            have cBl := blanks_any H3.out.rd.own hpos.2 hs
            have hsk := X.Suf.skip (rest s u)
            have hpos2 := rest_pos hsk hpos.2
            have hre2 := rest_suf hsk
            obtain ⟨v, hv⟩ : ∃ v, s.size - (X.skip (rest s u)).length = v := ⟨_, rfl⟩
            rw [hv] at cBl hpos2 hre2
            have HE3 : Hid (RES = (match X.must [62] (rest s v) with | .error e => .error e | .ok (_, r) => .ok (((tx, ks), c), r))) := by
              show _ = _
              rw [HE2.out, hre2]
            have hvs := hpos2.2
            clear hr hsk hpos2 hre2 hv HE2 hnm3 m0 m1
            go_wp2_with fail
            refine cBl.mono ?_
            rintro e w4 ⟨rfl, g3⟩
            have H4 := hid (H3.out.rdr g3)
            have cM := must_l [62] ⟨#[62]⟩ rfl H4.out.rd.own hvs hs
            clear g3 cBl H3
            go_wp2_with fail
            refine cM.mono ?_
            rintro e w5 (⟨_, r, hx, rfl, hr⟩ | ⟨m, e, hx, rfl, hr⟩)
            · have HE4 : Hid (RES = .ok (((tx, ks), c), r)) := by show _ = _; rw [HE3.out, hx]
              have H5 := hid (H4.out.rdr hr)
              have cS := string_any (H + 1) (H + 1) tx _ H5.out.ho H5.out.ho.bw
              clear hx hr cM HE3 H4
              go_wp2_with fail
              refine cS.mono ?_
              rintro e w6 ⟨rfl, gh, gb, gk⟩
              have H6 := hid (H5.out.text gh gb gk)
              clear gh gb gk cS H5
              go_wp2_with fail
              go_ret2
              exact Or.inl ⟨_, _, _, _, _, HE4.out, rfl, X.N.In.keep (fun b hb => ⟨by have := hb.1; have := HH.out; omega, hb.2.1, hb.2.2.1, hb.2.2.2⟩) (fun _ _ => rfl) H6.out.ko.is, h6, H6.out.rd⟩
            · have HE4 : Hid (RES = .error (m, e)) := by show _ = _; rw [HE3.out, hx]
              exact ⟨rfl, Or.inr ⟨_, _, HE4.out, rfl, H4.out.rd.g.trans hr⟩⟩
        · have HE2 : Hid (RES = .error (s.size - q2, 81) ∧ s.size - (s.size - q2) = q2) := by
            refine ⟨?_, by omega⟩
            rw [HE1.out, if_pos]
            intro hh
            exact k2 (by rw [hm2, hl2, hh])
          have b1 : (a1.toList == t1.toList) = true := by rw [k1]; simp
          have b2 : (a2.toList == t2.toList) = false := beq_eq_false_iff_ne.2 k2
          clear k1 k2 HE1 hm1 hm2 hl1 hl2
          go_wp2_with fail
          go_region_with (go_at_call 37; refine (HCN.out).mono ?_; rintro e w3 ⟨rfl, hr⟩; (have hnm3 : w3.heap[H]? = some (.cells #[.string t1, .string t2] 75 (0, 0)) := (hr.g.block H (Go.lt_of_block HNM2.out) (fun e => HRH.out (Option.some.inj e))).trans HNM2.out; obtain ⟨m0, m1⟩ := row2 hnm3))
          all_goals
            have H3 := hid (HD.out.rdr hr)
            have cF := fun U => fail_any 81 (q2 : Int) U
            clear hr
            go_wp2_with fail
            refine (cF _).mono ?_
            rintro en w4 ⟨rfl, rfl⟩
            exact ⟨rfl, Or.inr ⟨_, _, HE2.out.1, by rw [HE2.out.2], H3.out.rd.g⟩⟩
        · have HE2 : Hid (RES = .error (s.size - q2, 81) ∧ s.size - (s.size - q2) = q2) := by
            refine ⟨?_, by omega⟩
            rw [HE1.out, if_pos]
            intro hh
            exact k1 (by rw [hm1, hl1, hh])
          have b1 : (a1.toList == t1.toList) = false := beq_eq_false_iff_ne.2 k1
          clear k1 HE1 hm1 hm2 hl1 hl2
          go_wp2_with fail
          go_region_with (go_at_call 37; refine (HCN.out).mono ?_; rintro e w3 ⟨rfl, hr⟩; (have hnm3 : w3.heap[H]? = some (.cells #[.string t1, .string t2] 75 (0, 0)) := (hr.g.block H (Go.lt_of_block HNM2.out) (fun e => HRH.out (Option.some.inj e))).trans HNM2.out; obtain ⟨m0, m1⟩ := row2 hnm3))
          all_goals
            have H3 := hid (HD.out.rdr hr)
            have cF := fun U => fail_any 81 (q2 : Int) U
            clear hr
            go_wp2_with fail
            refine (cF _).mono ?_
            rintro en w4 ⟨rfl, rfl⟩
            exact ⟨rfl, Or.inr ⟨_, _, HE2.out.1, by rw [HE2.out.2], H3.out.rd.g⟩⟩
    · have H2 := hid (HS.out.below g3)
      have HN1 : Hid (¬ [60, 47].isPrefixOf (rest s q) = true) := by show ¬ _; rw [g1]; decide
      clear g1 g3 cT HS
      have cT := take_l (k := 4) [60, 33, 45, 45] ⟨#[60, 33, 45, 45]⟩ rfl rfl H2.out.rd.own h2 hs
      go_wp2_with fail
      refine cT.mono ?_
      rintro e w3 (⟨g1, g2, rfl, g3⟩ | ⟨g1, rfl, g3⟩)
      · have HE : Hid (RES = (match X.comment ((rest s q).length + 1) (rest s (q + 4)) with | .error e => .error e | .ok (_, r) => X.inside el tag k c tx ks r)) := by
          show _ = _
          rw [HE0.out, X.inside, if_neg HN1.out, if_pos g1, rest_drop]
          rfl
        have H3 := hid (H2.out.rdr g3)
        have cC := comment_any ((rest s q).length + 1) (by rw [rest_len]; omega) H3.out.rd.own g2 hs (HG.out.rd H3.out.rd hGR) hGR
        have HF := hid (X.comment_fair ((rest s q).length + 1) (rest s (q + 4)))
        clear g1 g3 cT HE0 HN1 H2
        go_wp2_with fail
        refine cC.mono ?_
        rintro e w4 (⟨x, r, hx, rfl, hr⟩ | ⟨n, e, hx, rfl, hr⟩)
        · have hsuf := (HF.out.1 _ _ hx).1
          have hpos := rest_pos hsuf g2
          have hre := rest_suf hsuf
          obtain ⟨u, hu⟩ : ∃ u, s.size - r.length = u := ⟨_, rfl⟩
          rw [hu] at hr hpos hre
          have H4 := hid (H3.out.rdr hr)
          have H5 : Hid (s.size - u < k ∧ u ≤ s.size ∧ tx.length ≤ 4 * u ∧ ks.length ≤ u ∧ c ≤ 1024 ∧ X.inside el tag k c tx ks (rest s u) = RES) := ⟨by have := HI.out.1; omega, hpos.2, by omega, by omega, h6, by rw [HE.out, hx, hre]⟩
          have H6 : Hid (s.size - u < s.size - q) := by show _ < _; omega
          clear hx hr hsuf hpos hre hu cC HF HE H3
          go_wp2_with fail
          go_roundw
          case rel => exact ⟨u, k, c, tx, ks, va, vc, rfl, H5, H4⟩
          case measure => rw [H4.out.rd.pos, HPOS.out]; exact H6.out
        · have HE2 : Hid (RES = .error (n, e)) := by show _ = _; rw [HE.out, hx]
          exact ⟨rfl, Or.inr ⟨_, _, HE2.out, rfl, H3.out.rd.g.trans hr⟩⟩
      · have H3 := hid (H2.out.below g3)
        have HN2 : Hid (¬ [60, 33, 45, 45].isPrefixOf (rest s q) = true) := by show ¬ _; rw [g1]; decide
        clear g1 g3 cT H2
        have cT := take_l (k := 9) [60, 33, 91, 67, 68, 65, 84, 65, 91] ⟨#[60, 33, 91, 67, 68, 65, 84, 65, 91]⟩ rfl rfl H3.out.rd.own h2 hs
        go_wp2_with fail
        refine cT.mono ?_
        rintro e w4 (⟨g1, g2, rfl, g3⟩ | ⟨g1, rfl, g3⟩)
        · have HE : Hid (RES = (match X.cdata ((rest s q).length + 1) tx (rest s (q + 9)) with | .error e => .error e | .ok (tx', r) => X.inside el tag k c tx' ks r)) := by
            show _ = _
            rw [HE0.out, X.inside, if_neg HN1.out, if_neg HN2.out, if_pos g1, rest_drop]
            rfl
          have H4 := hid (H3.out.rdr g3)
          clear g3 cT HE0 HN1 HN2 H3
          have HC0 : Hid (s.size - (q + 9) < (rest s q).length + 1 ∧ q + 9 ≤ s.size ∧ tx.length ≤ 4 * (q + 9) ∧ q + 9 ≤ q + 9 ∧ X.cdata ((rest s q).length + 1) tx (rest s (q + 9)) = X.cdata ((rest s q).length + 1) tx (rest s (q + 9))) := ⟨by rw [rest_len]; omega, g2, by omega, Nat.le_refl _, rfl⟩
          obtain ⟨q9, hq9⟩ : ∃ q9, q + 9 = q9 := ⟨_, rfl⟩
          obtain ⟨RC, hRC⟩ : ∃ RC, X.cdata ((rest s q).length + 1) tx (rest s (q + 9)) = RC := ⟨_, rfl⟩
          obtain ⟨fc, hfc⟩ : ∃ fc, (rest s q).length + 1 = fc := ⟨_, rfl⟩
          rw [hRC] at HE
          have HC1 : Hid (s.size - q9 < fc ∧ q9 ≤ s.size ∧ tx.length ≤ 4 * q9 ∧ q9 ≤ q9 ∧ X.cdata fc tx (rest s q9) = RC) := by
            rw [← hq9, ← hfc]
            exact ⟨HC0.out.1, HC0.out.2.1, HC0.out.2.2.1, Nat.le_refl _, hRC⟩
          rw [hq9] at H4
          have HQ9 : Hid (q < q9) := by show _ < _; omega
          clear HC0 hRC hfc hq9 g2
          go_wp2_with fail
          go_loopw [] (fun wr => ∃ (t kc : Nat) (acc : List UInt8), Hid (s.size - t < kc ∧ t ≤ s.size ∧ acc.length ≤ 4 * t ∧ q9 ≤ t ∧ X.cdata kc acc (rest s t) = RC) ∧ Hid (IS W R H M N s tag known t c acc ks (.slice va ks.length vc) wr)) (fun wr => s.size - posOf wr R)
          case atStart => exact ⟨_, _, _, HC1, H4⟩
          case round =>
            obtain ⟨t, kc, acc, HJ, HT⟩ := hrel
            clear HC1 H4
            obtain ⟨i1, i2, i4, i5, i3⟩ := HJ.out
            obtain ⟨kc, rfl⟩ : ∃ k', kc = k' + 1 := ⟨kc - 1, by omega⟩
            have HPT := hid HT.out.rd.pos
            have cT := take_l (k := 3) [93, 93, 62] ⟨#[93, 93, 62]⟩ rfl rfl HT.out.rd.own i2 hs
            clear i1 i3
            go_wp2_with fail
            refine cT.mono ?_
            rintro e w5 (⟨g1, g2, rfl, g3⟩ | ⟨g1, rfl, g3⟩)
            · have HE1 : Hid (RC = .ok (acc, rest s (t + 3))) := by
                show _ = _
                rw [← HJ.out.2.2.2.2, X.cdata, if_pos g1, rest_drop]
              have H5 := hid (HT.out.rdr g3)
              have HE2 : Hid (RES = X.inside el tag k c acc ks (rest s (t + 3))) := by show _ = _; rw [HE.out, HE1.out]
              have HI5 : Hid (s.size - (t + 3) < k ∧ t + 3 ≤ s.size ∧ acc.length ≤ 4 * (t + 3) ∧ ks.length ≤ t + 3 ∧ c ≤ 1024 ∧ X.inside el tag k c acc ks (rest s (t + 3)) = RES) := ⟨by have := HI.out.1; have := HQ9.out; omega, g2, by omega, by have := HQ9.out; omega, h6, HE2.out.symm⟩
              have HMM : Hid (s.size - (t + 3) < s.size - q) := by have := HQ9.out; show _ < _; omega
              clear g1 g2 g3 cT HE HE1 HE2 HT
              go_wp2_with fail
              go_roundw
              case rel => exact ⟨t + 3, k, c, acc, ks, va, vc, rfl, HI5, H5⟩
              case measure => rw [H5.out.rd.pos, HPOS.out]; exact HMM.out
            · have H5 := hid (HT.out.below g3)
              have HE1 : Hid (RC = (match X.char (rest s t) with | .error e => .error e | .ok (y, r) => X.cdata kc (acc ++ Go.Proofs.YtakplnceiibmlaaGreatDoor.W.charL y) r)) := by
                show _ = _
                rw [← HJ.out.2.2.2.2, X.cdata, if_neg (by rw [g1]; decide)]
                rfl
              have cC := char_any H5.out.rd.own i2 hs (HG.out.rd H5.out.rd hGR)
              have HF := hid (X.char_fair (rest s t))
              clear g1 g3 cT HT
              go_wp2_with fail
              refine cC.mono ?_
              rintro e w6 (⟨y, r, hx, rfl, hr⟩ | ⟨n, e, hx, rfl, hr⟩)
              · have hsuf := (HF.out.1 _ _ hx).1
                have hlen := (HF.out.1 _ _ hx).2
                have hok := X.char_ok hx
                rw [rest_len] at hlen
                have hpos := rest_pos hsuf i2
                have hre := rest_suf hsuf
                obtain ⟨u, hu⟩ : ∃ u, s.size - r.length = u := ⟨_, rfl⟩
                rw [hu] at hr hpos hre
                have H6 := hid (H5.out.rdr hr)
                have HJ6 : Hid (s.size - u < kc ∧ u ≤ s.size ∧ (acc ++ Go.Proofs.YtakplnceiibmlaaGreatDoor.W.charL y).length ≤ 4 * u ∧ q9 ≤ u ∧ X.cdata kc (acc ++ Go.Proofs.YtakplnceiibmlaaGreatDoor.W.charL y) (rest s u) = RC) := by
                  refine ⟨by have := HJ.out.1; omega, hpos.2, ?_, by omega, by rw [HE1.out, hx, hre]⟩
                  have := charL_le y
                  rw [List.length_append]
                  omega
                have HMM : Hid (s.size - u < s.size - t) := by show _ < _; omega
                have hw := writeRune_any (H + 1) (H + 1) acc y hok _ H6.out.ho (by omega) H6.out.ho.bw
                clear hx hr hsuf hlen hpos hre hu cC HF HE1 hok H5
                go_wp2_with fail
                refine hw.mono ?_
                rintro e w7 ⟨⟨nn, rfl⟩, gh, gb, gk⟩
                have H7 := hid (H6.out.text gh gb gk)
                clear gh gb gk hw H6
                go_wp2_with fail
                go_roundw
                case rel => exact ⟨u, kc, _, HJ6, H7⟩
                case measure => rw [H7.out.rd.pos, HPT.out]; exact HMM.out
              · have HE2 : Hid (RES = .error (n, e)) := by show _ = _; rw [HE.out, HE1.out, hx]
                exact ⟨rfl, Or.inr ⟨_, _, HE2.out, rfl, H5.out.rd.g.trans hr⟩⟩
        · have H4 := hid (H3.out.below g3)
          have HN3 : Hid (¬ [60, 33, 91, 67, 68, 65, 84, 65, 91].isPrefixOf (rest s q) = true) := by show ¬ _; rw [g1]; decide
          clear g1 g3 cT H3
          have HE1 : Hid (RES = if ([60, 33].isPrefixOf (rest s q) || [60, 63].isPrefixOf (rest s q) || [93, 93, 62].isPrefixOf (rest s q)) = true then .error (X.bad (rest s q))
              else if [60].isPrefixOf (rest s q) then
                match el c (rest s q) with
                | .error e => .error e
                | .ok ((e, cnt'), r) => X.inside el tag k cnt' tx (ks.snoc e) r
              else if [38].isPrefixOf (rest s q) then
                match X.ref (rest s q) with
                | .error e => .error e
                | .ok (y, r) => X.inside el tag k c (tx ++ Go.Proofs.YtakplnceiibmlaaGreatDoor.W.charL y) ks r
              else match X.char (rest s q) with
                | .error e => .error e
                | .ok (y, r) => X.inside el tag k c (tx ++ Go.Proofs.YtakplnceiibmlaaGreatDoor.W.charL y) ks r) := by
            show _ = _
            rw [HE0.out, X.inside, if_neg HN1.out, if_neg HN2.out, if_neg HN3.out]
            rfl
          clear HN1 HN2 HN3 HE0
          have cN := next_l [60, 33] ⟨#[60, 33]⟩ rfl H4.out.rd.own h2
          cases b1 : [60, 33].isPrefixOf (rest s q)
          · rw [b1] at cN HE1
            clear b1
            go_wp2_with fail
            refine cN.mono ?_
            rintro e w5 ⟨rfl, g3⟩
            have H5 := hid (H4.out.below g3)
            clear g3 cN H4
            have cN := next_l [60, 63] ⟨#[60, 63]⟩ rfl H5.out.rd.own h2
            cases b2 : [60, 63].isPrefixOf (rest s q)
            · rw [b2] at cN HE1
              clear b2
              go_wp2_with fail
              refine cN.mono ?_
              rintro e w6 ⟨rfl, g3⟩
              have H6 := hid (H5.out.below g3)
              clear g3 cN H5
              have cN := next_l [93, 93, 62] ⟨#[93, 93, 62]⟩ rfl H6.out.rd.own h2
              cases b3 : [93, 93, 62].isPrefixOf (rest s q)
              · rw [b3] at cN HE1
                simp only [Bool.or_false, Bool.false_eq_true, if_false] at HE1
                clear b3
                go_wp2_with fail
                refine cN.mono ?_
                rintro e w7 ⟨rfl, g3⟩
                have H7 := hid (H6.out.below g3)
                clear g3 cN H6
                have cN := next_l [60] ⟨#[60]⟩ rfl H7.out.rd.own h2
                cases b4 : [60].isPrefixOf (rest s q)
                · rw [b4] at cN HE1
                  simp only [Bool.false_eq_true, if_false] at HE1
                  clear b4
                  go_wp2_with fail
                  refine cN.mono ?_
                  rintro e w8 ⟨rfl, g3⟩
                  have H8 := hid (H7.out.below g3)
                  clear g3 cN H7
                  have cN := next_l [38] ⟨#[38]⟩ rfl H8.out.rd.own h2
                  cases b5 : [38].isPrefixOf (rest s q)
                  · rw [b5] at cN HE1
                    simp only [Bool.false_eq_true, if_false] at HE1
                    clear b5
                    go_wp2_with fail
                    refine cN.mono ?_
                    rintro e w9 ⟨rfl, g3⟩
                    have H9 := hid (H8.out.below g3)
                    clear g3 cN H8
                    have cC := char_any H9.out.rd.own h2 hs (HG.out.rd H9.out.rd hGR)
                    have HF := hid (X.char_fair (rest s q))
                    have HOK := hid (fun y r => @X.char_ok (rest s q) r y)
                    go_wp2_with fail
                    refine cC.mono ?_
                    rintro e w10 (⟨y, r, hx, rfl, hr⟩ | ⟨n, e, hx, rfl, hr⟩)
                    · have hsuf := (HF.out.1 _ _ hx).1
                      have hlen := (HF.out.1 _ _ hx).2
                      have hok := HOK.out _ _ hx
                      rw [rest_len] at hlen
                      have hpos := rest_pos hsuf h2
                      have hre := rest_suf hsuf
                      obtain ⟨u, hu⟩ : ∃ u, s.size - r.length = u := ⟨_, rfl⟩
                      rw [hu] at hr hpos hre
                      have H10 := hid (H9.out.rdr hr)
                      have H5 : Hid (s.size - u < k ∧ u ≤ s.size ∧ (tx ++ Go.Proofs.YtakplnceiibmlaaGreatDoor.W.charL y).length ≤ 4 * u ∧ ks.length ≤ u ∧ c ≤ 1024 ∧ X.inside el tag k c (tx ++ Go.Proofs.YtakplnceiibmlaaGreatDoor.W.charL y) ks (rest s u) = RES) := by
                        refine ⟨by have := HI.out.1; omega, hpos.2, ?_, by omega, h6, by rw [HE1.out, hx, hre]⟩
                        have := charL_le y
                        rw [List.length_append]
                        omega
                      have H6 : Hid (s.size - u < s.size - q) := by show _ < _; omega
                      have hw := writeRune_any (H + 1) (H + 1) tx y hok _ H10.out.ho (by omega) H10.out.ho.bw
                      clear hx hr hsuf hlen hpos hre hu cC HF HOK HE1 hok H9
                      go_wp2_with fail
                      refine hw.mono ?_
                      rintro e w11 ⟨⟨nn, rfl⟩, gh, gb, gk⟩
                      have H7 := hid (H10.out.text gh gb gk)
                      clear gh gb gk hw H10
                      go_wp2_with fail
                      go_roundw
                      case rel => exact ⟨u, k, c, _, ks, va, vc, rfl, H5, H7⟩
                      case measure => rw [H7.out.rd.pos, HPOS.out]; exact H6.out
                    · have HE2 : Hid (RES = .error (n, e)) := by show _ = _; rw [HE1.out, hx]
                      exact ⟨rfl, Or.inr ⟨_, _, HE2.out, rfl, H9.out.rd.g.trans hr⟩⟩
                  · have hq : q < s.size := by
                      have := X.pre_len b5
                      rw [rest_len] at this
                      simp at this
                      omega
                    rw [b5] at cN HE1
                    simp only [if_true] at HE1
                    clear b5
                    go_wp2_with fail
                    refine cN.mono ?_
                    rintro e w9 ⟨rfl, g3⟩
                    have H9 := hid (H8.out.below g3)
                    clear g3 cN H8
                    have cC := reference_any H9.out.rd.own hq hs (HG.out.rd H9.out.rd hGR) hGR
                    have HF := hid ((X.ref_fair (rest s q)).less (show 1 ≤ 2 by omega))
                    have HOK := hid (fun y r => @X.ref_ok (rest s q) r y)
                    clear hq
                    go_wp2_with fail
                    refine cC.mono ?_
                    rintro e w10 (⟨y, r, hx, rfl, hr⟩ | ⟨n, e, hx, rfl, hr⟩)
                    · have hsuf := (HF.out.1 _ _ hx).1
                      have hlen := (HF.out.1 _ _ hx).2
                      have hok := HOK.out _ _ hx
                      rw [rest_len] at hlen
                      have hpos := rest_pos hsuf h2
                      have hre := rest_suf hsuf
                      obtain ⟨u, hu⟩ : ∃ u, s.size - r.length = u := ⟨_, rfl⟩
                      rw [hu] at hr hpos hre
                      have H10 := hid (H9.out.rdr hr)
                      have H5 : Hid (s.size - u < k ∧ u ≤ s.size ∧ (tx ++ Go.Proofs.YtakplnceiibmlaaGreatDoor.W.charL y).length ≤ 4 * u ∧ ks.length ≤ u ∧ c ≤ 1024 ∧ X.inside el tag k c (tx ++ Go.Proofs.YtakplnceiibmlaaGreatDoor.W.charL y) ks (rest s u) = RES) := by
                        refine ⟨by have := HI.out.1; omega, hpos.2, ?_, by omega, h6, by rw [HE1.out, hx, hre]⟩
                        have := charL_le y
                        rw [List.length_append]
                        omega
                      have H6 : Hid (s.size - u < s.size - q) := by show _ < _; omega
                      have hw := writeRune_any (H + 1) (H + 1) tx y hok _ H10.out.ho (by omega) H10.out.ho.bw
                      clear hx hr hsuf hlen hpos hre hu cC HF HOK HE1 hok H9
                      go_wp2_with fail
                      refine hw.mono ?_
                      rintro e w11 ⟨⟨nn, rfl⟩, gh, gb, gk⟩
                      have H7 := hid (H10.out.text gh gb gk)
                      clear gh gb gk hw H10
                      go_wp2_with fail
                      go_roundw
                      case rel => exact ⟨u, k, c, _, ks, va, vc, rfl, H5, H7⟩
                      case measure => rw [H7.out.rd.pos, HPOS.out]; exact H6.out
                    · have HE2 : Hid (RES = .error (n, e)) := by show _ = _; rw [HE1.out, hx]
                      exact ⟨rfl, Or.inr ⟨_, _, HE2.out, rfl, H9.out.rd.g.trans hr⟩⟩
                · rw [b4] at cN HE1
                  simp only [if_true] at HE1
                  clear b4
                  go_wp2_with fail
                  refine cN.mono ?_
                  rintro e w8 ⟨rfl, g3⟩
                  have H8 := hid (H7.out.below g3)
                  clear g3 cN H7
                  obtain ⟨dp, hdp⟩ : ∃ dp, deep + 1 = dp := ⟨_, rfl⟩
                  have e1 : IntKind.i64.wrap ((deep : Int) + 1) = (dp : Int) := by rw [IntKind.wrap_i64] <;> omega
                  have cE := HELC.out q c w8 M N known H8.out.rd.own h2 h6 (HG.out.rd H8.out.rd hGR) H8.out.km H8.out.hR hN
                  rw [HEL.out, hdp] at cE
                  obtain ⟨kn, hkn⟩ : ∃ kn, ks.length = kn := ⟨_, rfl⟩
                  have HKN := hid hkn
                  rw [hkn] at h5 ⊢
                  have HKO : Hid (KOwn (H + 2) ks (.slice va kn vc) w8) := by have := H8.out.ko; rw [hkn] at this; exact this
                  clear hkn hdp
                  go_wp2_with fail
                  refine cE.mono ?_
                  rintro e w9 (⟨ee, c', r, cs, hx, rfl, hh, hc', hr⟩ | ⟨n, e, hx, rfl, hr⟩)
                  · have hsuf := ((HEF.out c (rest s q)).1 _ _ hx).1
                    have hlen := ((HEF.out c (rest s q)).1 _ _ hx).2
                    rw [rest_len] at hlen
                    have hpos := rest_pos hsuf h2
                    have hre := rest_suf hsuf
                    obtain ⟨u, hu⟩ : ∃ u, s.size - r.length = u := ⟨_, rfl⟩
                    rw [hu] at hr hpos hre
                    have H9 := hid (H8.out.rdr hr)
                    have HK9 : Hid (KOwn (H + 2) ks (.slice va kn vc) w9) := by have := H9.out.ko; rw [HKN.out] at this; exact this
                    obtain ⟨av, kv, rfl, hav, hkv⟩ := hh
                    obtain ⟨ava, avc, rfl⟩ := hav.shape
                    obtain ⟨kva, kvc, rfl⟩ := hkv.shape
                    have HHAS : Hid (ee.Has w9 (OwnN w9 w8.heap.size none) [.string ee.sp, .string ee.lo, .slice ava (X.E.as ee).length avc, .slice kva ee.ks.length kvc, .string ee.tx, .int .i64 ee.ln, .int .i64 ee.cl]) := ⟨_, _, rfl, hav, hkv⟩
                    obtain ⟨kcs, hown0, hkcs⟩ := HK9.out
                    rw [HKN.out] at hown0
                    have hlt8 := HKO.out.lt
                    have H5 : Hid (s.size - u < k ∧ u ≤ s.size ∧ tx.length ≤ 4 * u ∧ (ks.snoc ee).length ≤ u ∧ c' ≤ 1024 ∧ X.inside el tag k c' tx (ks.snoc ee) (rest s u) = RES) := by
                      refine ⟨by have := HI.out.1; omega, hpos.2, by omega, ?_, hc', ?_⟩
                      · rw [X.N.snoc_length, HKN.out]; omega
                      · rw [HE1.out, hx, hre]
                    have H6 : Hid (s.size - u < s.size - q) := by show _ < _; omega
                    have HKCS := hid hkcs
                    have HLT8 := hid hlt8
                    have H8S : Hid (H + 2 ≤ w8.heap.size) := by
                      have := H8.out.ho.lt
                      show _ ≤ _
                      omega
                    clear hx hr hsuf hlen hpos hre hu cE HE1 hc' hav hkv hkcs hlt8
                    obtain ⟨w10, hw10⟩ : ∃ w10, w9.alloc (.cells #[.string ee.sp, .string ee.lo, .slice ava (X.E.as ee).length avc, .slice kva ee.ks.length kvc, .string ee.tx, .int .i64 ee.ln, .int .i64 ee.cl] 28) = w10 := ⟨_, rfl⟩
                    obtain ⟨V, hV⟩ : ∃ V, w9.heap.size = V := ⟨_, rfl⟩
                    have hT : w10.heap[V]? = some (.cells #[.string ee.sp, .string ee.lo, .slice ava (X.E.as ee).length avc, .slice kva ee.ks.length kvc, .string ee.tx, .int .i64 ee.ln, .int .i64 ee.cl] 28 (0, 0)) := by rw [← hw10, ← hV]; exact heap_alloc_new w9 _
                    have hb10 : Below w9.heap.size w9 w10 := by rw [← hw10]; exact (Below.refl _ w9).alloc (Nat.le_refl _) _
                    have H10 := hid (H9.out.below hb10)
                    have hown10 : w10.ownsRow (H + 2) 28 7 (.slice va kn vc) kn kcs := World.ownsRow.kept (row := none) hown0 ⟨hb10.os, hb10.tape, hb10.output, hb10.size, fun k hk _ => hb10.block k hk⟩ (Classical.em _)
                    have HC10 : Hid (ks.Cells w10 (OwnN w10 (H + 2) (Value.slice va kn vc).ownBlock) kcs) := X.N.Cells.keep (fun b hb => (hb.keep (KeepN.below hb10 _)).1) (fun b hb => (hb.keep (KeepN.below hb10 _)).2) ks kcs HKCS.out
                    have HH10 : Hid (ee.Has w10 (OwnN w10 (H + 2) (Value.slice va kn vc).ownBlock) [.string ee.sp, .string ee.lo, .slice ava (X.E.as ee).length avc, .slice kva ee.ks.length kvc, .string ee.tx, .int .i64 ee.ln, .int .i64 ee.cl]) := by
                      refine X.E.Has.keep (fun b hb => ?_) (fun b hb => (hb.keep (KeepN.below hb10 _)).2) HHAS.out
                      have h1 := (hb.keep (KeepN.below hb10 _)).1
                      refine ⟨by have := h1.1; have := H8S.out; omega, h1.2.1, fun e => ?_, h1.2.2.2⟩
                      have h2 := (HLT8.out b e).2
                      have h3 := h1.1
                      omega
                    have hnews := World.news_of_block hT
                    have hbase : H + 2 ≤ w10.heap.size := by have := H8S.out; have := H10.out.ho.lt; have := hb10.size; have := Go.lt_of_block hT; have := (H9.out.ho).lt; omega
                    obtain ⟨i0, hi, hz0, hz1, hzz⟩ := info_parts infoNode
                    have HW10 := hid hw10
                    have HVE := hid hV
                    clear hw10 hV hb10 hown0
                    go_wp2_with (at_builtin; (try rw [HW10.out, HVE.out]); refine wpList_append_lies _ rfl _ _ 24 rfl (H + 2) 28 i0 _ 7 112 Tryz.underlying24 hi hz0 hz1 hzz rfl (by decide) (.slice va kn vc) kn kcs rfl hown10 ⟨V, 0, none⟩ 1 1 [.string ee.sp, .string ee.lo, .slice ava (X.E.as ee).length avc, .slice kva ee.ks.length kvc, .string ee.tx, .int .i64 ee.ln, .int .i64 ee.cl] rfl rfl hnews (by intro u hu; simp at hu; rcases hu with rfl | rfl | rfl | rfl | rfl | rfl | rfl <;> rfl) (by decide) (by unfold maxLen; omega) (by omega) hbase _ rfl ?_)
                    intro g1 cap1 w11 hown1 hgrow hat hlt1
                    have hsl := X.N.snoc_length ks ee
                    rw [HKN.out] at hsl
                    have HK11 : Hid (KOwn (H + 2) (ks.snoc ee) (.slice (some ⟨g1, 0, none⟩) (kn + 1) cap1) w11) := by
                      refine KOwn.more (w := w10) (v := .slice va kn vc) HH10.out HC10.out (by rw [HKN.out]; exact hown1) hgrow (fun b hb => ?_)
                      simp only [Value.ownBlock, Option.some.injEq] at hb
                      subst hb
                      rcases hat with hat | hat
                      · exact Or.inl hat
                      · exact Or.inr (by omega)
                    have H11 : Hid (IS W R H M N s tag known u c' tx (ks.snoc ee) (.slice (some ⟨g1, 0, none⟩) (kn + 1) cap1) w11) := by
                      have hlt10 := World.ownsRow.lt hown10
                      have hne : ∀ b, b < H + 2 → some b ≠ (Value.slice va kn vc).ownBlock := fun b hb e => by have := (hlt10 b e.symm).1; omega
                      have hB : Below (H + 2) w10 w11 := (Below.refl _ w10).grown hgrow hbase (fun k hk => (hlt10 k hk).1)
                      have hM := H10.out.hM
                      have hh := H10.out.h
                      refine ⟨H10.out.h, H10.out.rd.build hB (by omega), (hB.block H (by omega)).trans H10.out.nm, ?_, HK11.out, ?_, H10.out.hM, H10.out.hR⟩
                      · refine H10.out.ho.apart hgrow (hne _ (by omega)) (fun k hk => ?_)
                        rcases hown10.2 with ⟨e0, _⟩ | ⟨g2, cap2, cur2, e0, _, hg2, _⟩
                        · rw [e0] at hk; cases hk
                        · rw [e0] at hk
                          simp only [Value.ownBlock, Option.some.injEq] at hk
                          subst hk
                          exact ⟨_, _, _, hg2, by decide⟩
                      · obtain ⟨es, clock, m1, m2, m3, m4⟩ := H10.out.km
                        exact ⟨es, clock, (hB.block M (by omega)).trans m1, m2, m3, m4⟩
                    rw [← hsl] at H11
                    have HSL := hid hsl
                    clear hown1 hgrow hat hlt1 hown10 hT hnews hbase hi hz0 hz1 hzz hsl
                    rw [← HSL.out]
                    go_wp2_with fail
                    go_roundw
                    case rel => exact ⟨u, k, c', tx, ks.snoc ee, _, _, rfl, H5, H11⟩
                    case measure => rw [H11.out.rd.pos, HPOS.out]; exact H6.out
                  · have HE2 : Hid (RES = .error (n, e)) := by show _ = _; rw [HE1.out, hx]
                    exact ⟨rfl, Or.inr ⟨_, _, HE2.out, rfl, H8.out.rd.g.trans hr⟩⟩
              · rw [b3] at cN HE1
                simp only [Bool.or_true, if_true] at HE1
                clear b3
                go_wp2_with fail
                refine cN.mono ?_
                rintro e w9 ⟨rfl, g3⟩
                have H9 := hid (H6.out.below g3)
                have cB := bad_any H9.out.rd.own h2
                clear g3 cN
                go_wp2_with fail
                refine cB.mono ?_
                rintro e w10 ⟨rfl, hbl⟩
                exact ⟨rfl, Or.inr ⟨_, _, HE1.out, rfl, (H9.out.rd.below hbl).g⟩⟩
            · rw [b2] at cN HE1
              simp only [Bool.or_true, Bool.true_or, if_true] at HE1
              clear b2
              go_wp2_with fail
              refine cN.mono ?_
              rintro e w9 ⟨rfl, g3⟩
              have H9 := hid (H5.out.below g3)
              have cB := bad_any H9.out.rd.own h2
              clear g3 cN
              go_wp2_with fail
              refine cB.mono ?_
              rintro e w10 ⟨rfl, hbl⟩
              exact ⟨rfl, Or.inr ⟨_, _, HE1.out, rfl, (H9.out.rd.below hbl).g⟩⟩
          · rw [b1] at cN HE1
            simp only [Bool.true_or, if_true] at HE1
            clear b1
            go_wp2_with fail
            refine cN.mono ?_
            rintro e w9 ⟨rfl, g3⟩
            have H9 := hid (H4.out.below g3)
            have cB := bad_any H9.out.rd.own h2
            clear g3 cN
            go_wp2_with fail
            refine cB.mono ?_
            rintro e w10 ⟨rfl, hbl⟩
            exact ⟨rfl, Or.inr ⟨_, _, HE1.out, rfl, (H9.out.rd.below hbl).g⟩⟩
end Go.Proofs.YtakplnceiibmlaaGreatDoor
