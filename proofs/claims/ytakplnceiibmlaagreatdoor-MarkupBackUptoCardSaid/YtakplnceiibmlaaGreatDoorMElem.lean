/- The reader: an element. -/
import Derived.Test.YtakplnceiibmlaaGreatDoorMIn
namespace Go.Proofs.YtakplnceiibmlaaGreatDoor
open Go.RowKit
open Go.Lib (hid)
theorem KeepN.trans {w w1 w2 : World} {B : Nat} (h : KeepN w w1 B) (g : KeepN w1 w2 B) : KeepN w w2 B := ⟨Nat.le_trans h.1 g.1, fun b cs T hB hb hT => g.2 b cs T hB (h.2 b cs T hB hb hT) hT⟩
theorem OwnN.mono {w : World} {B C : Nat} {g0 : Option Nat} {b : Nat} (h : OwnN w B g0 b) (hC : C ≤ B) : OwnN w C g0 b := ⟨Nat.le_trans hC h.1, h.2⟩
theorem OwnN.via {w wf : World} {B C b : Nat} (h : OwnN w B none b) (he : wf.heap[b]? = w.heap[b]?) (hC : C ≤ B) : OwnN wf C none b := by
  obtain ⟨h1, h2, h3, cs, T, h4, h5⟩ := h
  exact ⟨by omega, Go.lt_of_block (he.trans h4), h3, cs, T, he.trans h4, h5⟩
theorem elem_end (R : Nat) (s : ByteArray) (G : Nat) : ElemC G R s 0 16 := by
  intro p c W M N known h hp hc hG hK hM hN
  have HX : Hid (X.elem s.data.toList 0 known c (rest s p) = .error (s.size - p, 84) ∧ s.size - (s.size - p) = p) := by
    refine ⟨?_, by omega⟩
    rw [X.elem, rest_len]
  obtain ⟨w1, hw1⟩ : ∃ w1, W.alloc (.cells #[.string ⟨#[]⟩, .string ⟨#[]⟩, .slice none 0 0, .slice none 0 0, .string ⟨#[]⟩, .int .i64 0, .int .i64 0] 28) = w1 := ⟨_, rfl⟩
  have HR1 : Hid (Rd W R s p c w1) := by show Rd _ _ _ _ _ _; rw [← hw1]; exact h.alloc _
  have HW1 := hid hw1
  obtain ⟨c0, c1, c2⟩ := HR1.out.cells
  have cF := fun U => fail_any 84 (p : Int) U
  clear h hG hK hw1
  go_enter Tryz.func22, Tryz.ntmps22
  go_upto_region 1 with fail
  rw [HW1.out]
  go_wp2_with fail
  refine (cF _).mono ?_
  rintro e w2 ⟨rfl, rfl⟩
  exact ⟨rfl, Or.inr ⟨_, _, HX.out.1, by rw [HX.out.2], HR1.out.g⟩⟩
set_option maxRecDepth 100000 in
set_option maxHeartbeats 8000000 in
theorem elem_step {G R d deep : Nat} {s : ByteArray} (hs6 : s.size ≤ 65536) (hGR : G ≤ R) (hE : ElemC G R s d (deep + 1)) (hdeep : deep < 16) : ElemC G R s (d + 1) deep := by
  intro p c W M N known h hp hc hG hK hMR hN
  have hs : s.size ≤ 1000000000000 := by omega
  obtain ⟨RES, hRES⟩ : ∃ x, X.elem s.data.toList (d + 1) known c (rest s p) = x := ⟨_, rfl⟩
  rw [hRES]
  have hSl : s.data.toList.length - (rest s p).length = p := by rw [rest_len, ← Lib.size_eq]; omega
  have HE0 : Hid (RES = if c = 1024 then .error (s.size - p, 3)
      else match X.must [60] (rest s p) with
        | .error e => .error e
        | .ok (_, l1) => match X.name l1 with
          | .error e => .error e
          | .ok (tag, l2) => match X.attrs (l2.length + 1) [] l2 with
            | .error e => .error e
            | .ok ((raws, opn), l3) => match X.resolve (s.size - p) tag raws known with
              | .error e => .error e
              | .ok (sp, al, k) =>
                if opn then
                  match X.inside (X.elem s.data.toList d k) tag (l3.length + 1) (c + 1) [] .nil l3 with
                  | .error e => .error e
                  | .ok (((tx, ks), cnt'), l4) => .ok ((⟨X.ba sp, X.ba tag.2, al, ks, X.ba tx, X.lineOf s.data.toList p, X.colOf s.data.toList p⟩, cnt'), l4)
                else .ok ((⟨X.ba sp, X.ba tag.2, al, .nil, X.ba [], X.lineOf s.data.toList p, X.colOf s.data.toList p⟩, c + 1), l3)) := by
    show _ = _
    rw [← hRES, X.elem, hSl, rest_len]
    rfl
  obtain ⟨H, hH⟩ : ∃ H, W.heap.size = H := ⟨_, rfl⟩
  obtain ⟨w1, hw1⟩ : ∃ w1, W.alloc (.cells #[.string ⟨#[]⟩, .string ⟨#[]⟩, .slice none 0 0, .slice none 0 0, .string ⟨#[]⟩, .int .i64 0, .int .i64 0] 28) = w1 := ⟨_, rfl⟩
  have HZ1 : Hid (w1.heap[H]? = some (nodeRow ⟨#[]⟩ ⟨#[]⟩ (.slice none 0 0) (.slice none 0 0) ⟨#[]⟩ 0 0)) := by show _ = _; rw [← hw1, ← hH]; exact heap_alloc_new W _
  have HR1 : Hid (Rd W R s p c w1) := by show Rd _ _ _ _ _ _; rw [← hw1]; exact h.alloc _
  have HK1 : Hid (KM w1 M N known) := by show KM _ _ _ _; rw [← hw1]; exact hK.below ((Below.refl _ W).alloc (Nat.le_refl _) _)
  have HRH : Hid (R < H) := by have := h.lt; show _ < _; omega
  have HMH : Hid (M < H) := by
    obtain ⟨es, clock, m1, _⟩ := hK
    have := Go.lt_of_block m1
    show _ < _
    omega
  have HEC := hid hE
  have HG := hid hG
  have HW1 := hid hw1
  have HH := hid hH
  obtain ⟨c0, c1, c2⟩ := HR1.out.cells
  have f2 := HR1.out.free 2
  have t0 : ((deep : Int) == 16) = false := beq_eq_false_iff_ne.2 (by omega)
  clear hE h hG hK hw1 hH hRES hSl
  by_cases hc4 : c = 1024
  · have HE1 : Hid (RES = .error (s.size - p, 3) ∧ s.size - (s.size - p) = p) := ⟨by rw [HE0.out, if_pos hc4], by omega⟩
    have t1 : ((c : Int) == 1024) = true := by rw [hc4]; rfl
    have cF := fun U => fail_any 3 (p : Int) U
    clear HE0 hc4
    go_enter Tryz.func22, Tryz.ntmps22
    go_upto_region 1 with fail
    rw [HW1.out, HH.out]
    go_wp2_with fail
    refine (cF _).mono ?_
    rintro e w2 ⟨rfl, rfl⟩
    exact ⟨rfl, Or.inr ⟨_, _, HE1.out.1, by rw [HE1.out.2], HR1.out.g⟩⟩
  have t1 : ((c : Int) == 1024) = false := beq_eq_false_iff_ne.2 (by omega)
  obtain ⟨c', hc'⟩ : ∃ c', c + 1 = c' := ⟨_, rfl⟩
  have hc'4 : c' ≤ 1024 := by omega
  have e1 : IntKind.i64.wrap ((c : Int) + 1) = (c' : Int) := by rw [IntKind.wrap_i64] <;> omega
  have HE1 : Hid (RES = match X.must [60] (rest s p) with
        | .error e => .error e
        | .ok (_, l1) => match X.name l1 with
          | .error e => .error e
          | .ok (tag, l2) => match X.attrs (l2.length + 1) [] l2 with
            | .error e => .error e
            | .ok ((raws, opn), l3) => match X.resolve (s.size - p) tag raws known with
              | .error e => .error e
              | .ok (sp, al, k) =>
                if opn then
                  match X.inside (X.elem s.data.toList d k) tag (l3.length + 1) c' [] .nil l3 with
                  | .error e => .error e
                  | .ok (((tx, ks), cnt'), l4) => .ok ((⟨X.ba sp, X.ba tag.2, al, ks, X.ba tx, X.lineOf s.data.toList p, X.colOf s.data.toList p⟩, cnt'), l4)
                else .ok ((⟨X.ba sp, X.ba tag.2, al, .nil, X.ba [], X.lineOf s.data.toList p, X.colOf s.data.toList p⟩, c'), l3)) := by
    show _ = _
    rw [HE0.out, if_neg hc4, hc']
  clear HE0 hc4 hc'
  obtain ⟨w2, hw2⟩ : ∃ w2, w1.setCell ⟨R, 2, none⟩ (.int .i64 c') = w2 := ⟨_, rfl⟩
  have HR2 : Hid (Rd W R s p c' w2) := by show Rd _ _ _ _ _ _; rw [← hw2]; exact HR1.out.set2 c'
  have g12 : w1.grownBy w2 (some R) := by rw [← hw2]; exact grownBy_set w1 R 2 _
  have HZ2 : Hid (w2.heap[H]? = some (nodeRow ⟨#[]⟩ ⟨#[]⟩ (.slice none 0 0) (.slice none 0 0) ⟨#[]⟩ 0 0)) := (g12.block H (Go.lt_of_block HZ1.out) (fun e => by have := Option.some.inj e; have := HRH.out; omega)).trans HZ1.out
  have HK2 : Hid (KM w2 M N known) := HK1.out.grown g12 (fun e => hMR (Option.some.inj e).symm)
  have HW2 := hid hw2
  have cM := must_l [60] ⟨#[60]⟩ rfl HR2.out.own hp hs
  have HFM := hid (X.must_fair [60] (rest s p))
  clear hw2 g12 HK1 HZ1
  go_enter Tryz.func22, Tryz.ntmps22
  go_upto_region 1 with fail
  rw [HW1.out, HH.out]
  go_upto_region 7 with fail
  rw [HW2.out]
  clear HW1 HW2 HR1 c0 c1 c2 f2 t0 t1 e1
  go_wp2_with fail
  refine cM.mono ?_
  rintro e w3 (⟨_, r, hx, rfl, hr⟩ | ⟨m, e, hx, rfl, hr⟩)
  · have hsuf := (HFM.out.1 _ _ hx).1
    have hpos := rest_pos hsuf hp
    have hre := rest_suf hsuf
    obtain ⟨u, hu⟩ : ∃ u, s.size - r.length = u := ⟨_, rfl⟩
    rw [hu] at hr hpos hre
    have hus := hpos.2
    have HE2 : Hid (RES = match X.name (rest s u) with
          | .error e => .error e
          | .ok (tag, l2) => match X.attrs (l2.length + 1) [] l2 with
            | .error e => .error e
            | .ok ((raws, opn), l3) => match X.resolve (s.size - p) tag raws known with
              | .error e => .error e
              | .ok (sp, al, k) =>
                if opn then
                  match X.inside (X.elem s.data.toList d k) tag (l3.length + 1) c' [] .nil l3 with
                  | .error e => .error e
                  | .ok (((tx, ks), cnt'), l4) => .ok ((⟨X.ba sp, X.ba tag.2, al, ks, X.ba tx, X.lineOf s.data.toList p, X.colOf s.data.toList p⟩, cnt'), l4)
                else .ok ((⟨X.ba sp, X.ba tag.2, al, .nil, X.ba [], X.lineOf s.data.toList p, X.colOf s.data.toList p⟩, c'), l3)) := by
      show _ = _
      rw [HE1.out, hx, ← hre]
    have HR3 := hid (HR2.out.trans hr)
    have HZ3 : Hid (w3.heap[H]? = some (nodeRow ⟨#[]⟩ ⟨#[]⟩ (.slice none 0 0) (.slice none 0 0) ⟨#[]⟩ 0 0)) := (hr.g.block H (Go.lt_of_block HZ2.out) (fun e => by have := Option.some.inj e; have := HRH.out; omega)).trans HZ2.out
    have HK3 : Hid (KM w3 M N known) := HK2.out.grown hr.g (fun e => hMR (Option.some.inj e).symm)
    have cN := name_any HR3.out.own hus hs
    have HFN := hid (X.name_fair (rest s u))
    clear hx hr hsuf hpos hre hu cM HFM HE1 HR2 HZ2 HK2
    go_wp2_with fail
    refine cN.mono ?_
    rintro e w4 (⟨tag, r, hx, rfl, hr⟩ | ⟨m, e, hx, rfl, hr⟩)
    · have hsuf := (HFN.out.1 _ _ hx).1
      have hpos := rest_pos hsuf hus
      have hre := rest_suf hsuf
      have HNL := hid (X.name_len hx)
      obtain ⟨v, hv⟩ : ∃ v, s.size - r.length = v := ⟨_, rfl⟩
      rw [hv] at hr hpos hre
      have hvs := hpos.2
      have HE3 : Hid (RES = match X.attrs ((rest s v).length + 1) [] (rest s v) with
            | .error e => .error e
            | .ok ((raws, opn), l3) => match X.resolve (s.size - p) tag raws known with
              | .error e => .error e
              | .ok (sp, al, k) =>
                if opn then
                  match X.inside (X.elem s.data.toList d k) tag (l3.length + 1) c' [] .nil l3 with
                  | .error e => .error e
                  | .ok (((tx, ks), cnt'), l4) => .ok ((⟨X.ba sp, X.ba tag.2, al, ks, X.ba tx, X.lineOf s.data.toList p, X.colOf s.data.toList p⟩, cnt'), l4)
                else .ok ((⟨X.ba sp, X.ba tag.2, al, .nil, X.ba [], X.lineOf s.data.toList p, X.colOf s.data.toList p⟩, c'), l3)) := by
        show _ = _
        rw [HE2.out, hx, ← hre]
      obtain ⟨Q, hQ⟩ : ∃ Q, w4.heap.size = Q := ⟨_, rfl⟩
      obtain ⟨w5, hw5⟩ : ∃ w5, w4.alloc (.cells #[.string (X.ba tag.1), .string (X.ba tag.2)] 75) = w5 := ⟨_, rfl⟩
      have HT5 : Hid (w5.heap[Q]? = some (nameRow tag)) := by show _ = _; rw [← hw5, ← hQ]; exact heap_alloc_new w4 _
      have hb5 : Below w4.heap.size w4 w5 := by rw [← hw5]; exact (Below.refl _ w4).alloc (Nat.le_refl _) _
      have HR5 : Hid (Rd W R s v c' w5) := (HR3.out.trans hr).below hb5
      have hz4 : w4.heap[H]? = some (nodeRow ⟨#[]⟩ ⟨#[]⟩ (.slice none 0 0) (.slice none 0 0) ⟨#[]⟩ 0 0) := (hr.g.block H (Go.lt_of_block HZ3.out) (fun e => by have := Option.some.inj e; have := HRH.out; omega)).trans HZ3.out
      have HZ5 : Hid (w5.heap[H]? = some (nodeRow ⟨#[]⟩ ⟨#[]⟩ (.slice none 0 0) (.slice none 0 0) ⟨#[]⟩ 0 0)) := (hb5.block H (Go.lt_of_block hz4)).trans hz4
      have HK5 : Hid (KM w5 M N known) := (HK3.out.grown hr.g (fun e => hMR (Option.some.inj e).symm)).below hb5
      have HQ5 : Hid (H < Q) := by have := Go.lt_of_block hz4; show _ < _; omega
      have HW5 := hid hw5
      have HQE := hid hQ
      have cA := attrs_any (f := (rest s v).length + 1) (by rw [rest_len]; omega) HR5.out.own hvs hs (HG.out.rd HR5.out hGR) hGR
      have HFA := hid (X.attrs_fair ((rest s v).length + 1) [] (rest s v))
      clear hx hr hsuf hpos hre hv cN HFN HE2 HR3 HZ3 HK3 hw5 hQ hb5 hz4
      unfold nameV
      go_upto_region 9 with fail
      rw [HW5.out, HQE.out]
      clear HW5 HQE
      go_wp2_with fail
      refine cA.mono ?_
      rintro e w6 (⟨raws, opn, r, rv, hx, rfl, hlr, hro, hr⟩ | ⟨m, e, hx, rfl, hr⟩)
      · have hsuf := (HFA.out.1.1 _ _ hx).1
        have hpos := rest_pos hsuf hvs
        have hre := rest_suf hsuf
        obtain ⟨x, hxx⟩ : ∃ x, s.size - r.length = x := ⟨_, rfl⟩
        rw [hxx] at hr hpos hre
        have hxs := hpos.2
        have HSM := hid (X.attrs_small (M := 1000000) _ _ _ _ _ _ (by rw [rest_len]; omega) (by intro y hy; cases hy) hx)
        have HE4 : Hid (RES = match X.resolve (s.size - p) tag raws known with
              | .error e => .error e
              | .ok (sp, al, k) =>
                if opn then
                  match X.inside (X.elem s.data.toList d k) tag ((rest s x).length + 1) c' [] .nil (rest s x) with
                  | .error e => .error e
                  | .ok (((tx, ks), cnt'), l4) => .ok ((⟨X.ba sp, X.ba tag.2, al, ks, X.ba tx, X.lineOf s.data.toList p, X.colOf s.data.toList p⟩, cnt'), l4)
                else .ok ((⟨X.ba sp, X.ba tag.2, al, .nil, X.ba [], X.lineOf s.data.toList p, X.colOf s.data.toList p⟩, c'), (rest s x))) := by
          show _ = _
          rw [HE3.out, hx, ← hre]
        have HR6 := hid (HR5.out.trans hr)
        have hne : ∀ b, b ≠ R → b < w5.heap.size → w6.heap[b]? = w5.heap[b]? := fun b hb hl => hr.g.block b hl (fun e => hb (Option.some.inj e))
        have HZ6 : Hid (w6.heap[H]? = some (nodeRow ⟨#[]⟩ ⟨#[]⟩ (.slice none 0 0) (.slice none 0 0) ⟨#[]⟩ 0 0)) := (hne H (by have := HRH.out; omega) (Go.lt_of_block HZ5.out)).trans HZ5.out
        have HT6 : Hid (w6.heap[Q]? = some (nameRow tag)) := (hne Q (by have := HRH.out; have := HQ5.out; omega) (Go.lt_of_block HT5.out)).trans HT5.out
        have HK6 : Hid (KM w6 M N known) := HK5.out.grown hr.g (fun e => hMR (Option.some.inj e).symm)
        have hrv : ∃ a n c, rv = .slice a n c := by
          rcases hro.2 with ⟨rfl, _⟩ | ⟨g, cap, cur, rfl, _⟩
          · exact ⟨_, _, _, rfl⟩
          · exact ⟨_, _, _, rfl⟩
        have cR := resolve_any (n := s.size - p) (at_ := p) tag (RawsIn.of hro) hlr HK6.out (by omega) (by omega) HNL.out HSM.out
        obtain ⟨ra, rn, rc, rfl⟩ := hrv
        obtain ⟨q0, q1⟩ := row2 (show w6.heap[Q]? = some (.cells #[.string (X.ba tag.1), .string (X.ba tag.2)] 75 (0, 0)) from HT6.out)
        unfold nameV at cR
        clear hx hr hsuf hpos hre hxx cA HFA HE3 HR5 HZ5 HT5 HK5 hne hro hlr HSM
        go_wp2_with fail
        refine cR.mono ?_
        rintro e w7 (⟨sp, al, k, M2, av, hx, rfl, hao, hal, hM2, hk2, hb7⟩ | ⟨m, e, hx, rfl, hb7⟩)
        · obtain ⟨ava, avc, rfl⟩ := hao.shape
          have hai := hao.is
          obtain ⟨aln, haln⟩ : ∃ aln, al.length = aln := ⟨_, rfl⟩
          rw [haln] at hai ⊢
          obtain ⟨spb, hspb⟩ : ∃ spb, X.ba sp = spb := ⟨_, rfl⟩
          obtain ⟨lob, hlob⟩ : ∃ lob, X.ba tag.2 = lob := ⟨_, rfl⟩
          have HE5 : Hid (RES = if opn then
                match X.inside (X.elem s.data.toList d k) tag ((rest s x).length + 1) c' [] .nil (rest s x) with
                | .error e => .error e
                | .ok (((tx, ks), cnt'), l4) => .ok ((⟨spb, lob, al, ks, X.ba tx, X.lineOf s.data.toList p, X.colOf s.data.toList p⟩, cnt'), l4)
              else .ok ((⟨spb, lob, al, .nil, X.ba [], X.lineOf s.data.toList p, X.colOf s.data.toList p⟩, c'), (rest s x))) := by
            show _ = _
            rw [HE4.out, hx, ← hspb, ← hlob]
          have HAI := hid hai
          obtain ⟨D, hD⟩ : ∃ D, w7.heap.size = D := ⟨_, rfl⟩
          obtain ⟨w8, hw8⟩ : ∃ w8, w7.alloc (.cells #[.string spb, .string lob, .slice ava aln avc, .slice none 0 0, .string ⟨#[]⟩, .int .i64 0, .int .i64 0] 28) = w8 := ⟨_, rfl⟩
          have HD8 : Hid (w8.heap[D]? = some (nodeRow spb lob (.slice ava aln avc) (.slice none 0 0) ⟨#[]⟩ 0 0)) := by show _ = _; rw [← hw8, ← hD]; exact heap_alloc_new w7 _
          have hb8 : Below w7.heap.size w7 w8 := by rw [← hw8]; exact (Below.refl _ w7).alloc (Nat.le_refl _) _
          have HB68 : Hid (Below w6.heap.size w6 w8) := hb7.trans (hb8.mono hb7.size)
          have HR8 : Hid (Rd W R s x c' w8) := HR6.out.below HB68.out
          have HSZ : Hid (H < Q ∧ Q < w6.heap.size ∧ R < H ∧ w6.heap.size ≤ w7.heap.size ∧ w7.heap.size = D ∧ W.heap.size = H) := by
            have := Go.lt_of_block HT6.out
            have := HQ5.out
            have := HRH.out
            have := hb7.size
            have := HH.out
            refine ⟨?_, ?_, ?_, ?_, hD, ?_⟩ <;> omega
          have HK8 : Hid (KM w8 M2 (N + 32) k) := hk2.below hb8
          have HM8 : Hid (M2 ≠ R) := by have := HSZ.out; show _ ≠ _; omega
          have cP := place_any s p hp hs w8
          unfold posV at cP
          obtain ⟨ln, hln⟩ : ∃ ln, X.lineOf s.data.toList p = ln := ⟨_, rfl⟩
          obtain ⟨cl, hcl⟩ : ∃ cl, X.colOf s.data.toList p = cl := ⟨_, rfl⟩
          rw [hln, hcl] at cP HE5
          have HB78 := hid hb8
          have HW8 := hid hw8
          have HDE := hid hD
          rw [hspb, hlob]
          clear hx hao hai hb7 hb8 hk2 hw8 hD hln hcl cR HE4 haln hspb q0 q1 HK6 HNL hal HR6
          go_upto_region 11 with fail
          rw [HW8.out, HDE.out]
          clear HW8 HDE
          obtain ⟨c0, c1, -⟩ := HR8.out.cells
          go_wp2_with fail
          refine cP.mono ?_
          rintro e w9 ⟨rfl, g3⟩
          have HB79 : Hid (Below w7.heap.size w7 w9) := HB78.out.trans (g3.mono HB78.out.size)
          have HD9 : Hid (w9.heap[D]? = some (nodeRow spb lob (.slice ava aln avc) (.slice none 0 0) ⟨#[]⟩ 0 0)) := (g3.block D (Go.lt_of_block HD8.out)).trans HD8.out
          have HR9 : Hid (Rd W R s x c' w9) := HR8.out.below g3
          have HK9 : Hid (KM w9 M2 (N + 32) k) := HK8.out.below g3
          have HM8' : Hid (M2 < w8.heap.size) := by
            obtain ⟨es, clock, m1, _⟩ := HK8.out
            exact Go.lt_of_block m1
          have HZ9 : Hid (w9.heap[H]? = some (nodeRow ⟨#[]⟩ ⟨#[]⟩ (.slice none 0 0) (.slice none 0 0) ⟨#[]⟩ 0 0)) := by
            have := HSZ.out
            show _ = _
            rw [g3.block H (by have := HB68.out.size; omega), HB68.out.block H (by omega)]
            exact HZ6.out
          have HT9 : Hid (w9.heap[Q]? = some (nameRow tag)) := by
            have := HSZ.out
            show _ = _
            rw [g3.block Q (by have := HB68.out.size; omega), HB68.out.block Q (by omega)]
            exact HT6.out
          obtain ⟨w10, hw10⟩ : ∃ w10, (w9.setCell ⟨D, 5, none⟩ (.int .i64 ln)).setCell ⟨D, 6, none⟩ (.int .i64 cl) = w10 := ⟨_, rfl⟩
          have g910 : w9.grownBy w10 (some D) := by rw [← hw10]; exact (grownBy_set w9 D 5 _).trans (grownBy_set _ D 6 _)
          have HD10 : Hid (w10.heap[D]? = some (nodeRow spb lob (.slice ava aln avc) (.slice none 0 0) ⟨#[]⟩ ln cl)) := by
            show _ = _
            rw [← hw10]
            have := row_set (row_set HD9.out 5 (.int .i64 ln)) 6 (.int .i64 cl)
            simp only [List.setIfInBounds_toArray, List.set_cons_zero, List.set_cons_succ] at this
            exact this
          have HR10 : Hid (Rd W R s x c' w10) := by
            have := HSZ.out
            show Rd _ _ _ _ _ _
            rw [← hw10]
            exact (HR9.out.put (by omega) 5 _).put (by omega) 6 _
          have hneD : ∀ b, b ≠ D → b < w9.heap.size → w10.heap[b]? = w9.heap[b]? := fun b hb hl => g910.block b hl (fun e => hb (Option.some.inj e))
          have HZ10 : Hid (w10.heap[H]? = some (nodeRow ⟨#[]⟩ ⟨#[]⟩ (.slice none 0 0) (.slice none 0 0) ⟨#[]⟩ 0 0)) := (hneD H (by have := HSZ.out; omega) (Go.lt_of_block HZ9.out)).trans HZ9.out
          have HT10 : Hid (w10.heap[Q]? = some (nameRow tag)) := (hneD Q (by have := HSZ.out; omega) (Go.lt_of_block HT9.out)).trans HT9.out
          have HMD : Hid (M2 ≠ D) := by
            intro e
            obtain ⟨es, clock, m1, _⟩ := HK9.out
            rw [e, HD9.out] at m1
            cases m1
          have HK10 : Hid (KM w10 M2 (N + 32) k) := HK9.out.grown g910 (fun e => HMD.out (Option.some.inj e).symm)
          have HF10 : Hid (∀ b, b < D → w10.heap[b]? = w7.heap[b]?) := by
            have := HSZ.out
            have := HB79.out.size
            intro b hb
            rw [hneD b (by omega) (by omega), HB79.out.block b (by omega)]
          have z5 := rowFree HD9.out 5
          have z6 := rowFree HD9.out 6
          obtain ⟨-, -, -, -, -, y5, y6⟩ := row7 HD9.out
          have HW10 := hid hw10
          clear g3 cP hw10 g910 hneD HD8 HR8 HK8 HM8' HB78 HB79 HZ6 HT6 c0 c1 HB68
          go_upto_region 12 with fail
          rw [HW10.out]
          clear HW10 HD9 HR9 HK9 HZ9 HT9 z5 z6 y5 y6
          cases opn with
          | false =>
            have HE6 : Hid (RES = .ok ((⟨spb, lob, al, .nil, X.ba [], ln, cl⟩, c'), rest s x) ∧ s.size - (rest s x).length = x) := ⟨by rw [HE5.out]; rfl, by rw [rest_len]; omega⟩
            obtain ⟨y0, y1, y2, y3, y4, y5, y6⟩ := row7 HD10.out
            have HZN := HZ10.out
            unfold nodeRow at HZN
            obtain ⟨x0, x1, x2, x3, x4, x5, x6⟩ := row7 HZN
            have f0 := rowFree HZN 0
            have f1 := rowFree HZN 1
            have f2 := rowFree HZN 2
            have f3 := rowFree HZN 3
            have f4 := rowFree HZN 4
            have f5 := rowFree HZN 5
            have f6 := rowFree HZN 6
            have HZN2 := hid HZN
            clear HZN HE5
            go_wp2_with fail
            have gf := st7_grown w10 H (.string spb) (.string lob) (.slice ava aln avc) (.slice none 0 0) (.string ⟨#[]⟩) (.int .i64 ln) (.int .i64 cl)
            have hfar : ∀ b, w6.heap.size ≤ b → b < w7.heap.size → (st7 w10 H (.string spb) (.string lob) (.slice ava aln avc) (.slice none 0 0) (.string ⟨#[]⟩) (.int .i64 ln) (.int .i64 cl)).heap[b]? = w7.heap[b]? := by
              intro b h1 h2
              have := HSZ.out
              have hl : b < w10.heap.size := by have := Go.lt_of_block HD10.out; omega
              rw [gf.block b hl (fun e => by have := Option.some.inj e; omega), HF10.out b (by omega)]
            exact bodyPost_ret (v := .agg #[.string spb, .string lob, .slice ava aln avc, .slice none 0 0, .string ⟨#[]⟩, .int .i64 ln, .int .i64 cl]) (results_cell_row rfl _ _ H 28 _ (0, 0) _ rfl (st7_row HZN2.out _ _ _ _ _ _ _) Tryz.underlying28 rfl sizeNode) rfl (Or.inl ⟨_, _, _, [.string spb, .string lob, .slice ava aln avc, .slice none 0 0, .string ⟨#[]⟩, .int .i64 ln, .int .i64 cl], HE6.out.1, rfl, ⟨_, _, rfl, X.AIn.keep (fun b hb => hb.via (hfar b hb.1 hb.2.1) (by have := HSZ.out; omega)) (fun b hb => hfar b hb.1 hb.2.1) HAI.out, Or.inl ⟨rfl, none, 0, rfl, fun _ => rfl⟩⟩, hc'4, by rw [HE6.out.2]; exact (((((((HR10.out.put (by have := HSZ.out; omega) 0 _).put (by have := HSZ.out; omega) 1 _).put (by have := HSZ.out; omega) 2 _).put (by have := HSZ.out; omega) 3 _).put (by have := HSZ.out; omega) 4 _).put (by have := HSZ.out; omega) 5 _).put (by have := HSZ.out; omega) 6 _)⟩)
          | true =>
            have HE6 : Hid (RES = match X.inside (X.elem s.data.toList d k) tag ((rest s x).length + 1) c' [] .nil (rest s x) with
                | .error e => .error e
                | .ok (((tx, ks), cnt'), l4) => .ok ((⟨spb, lob, al, ks, X.ba tx, ln, cl⟩, cnt'), l4)) := by show _ = _; rw [HE5.out]; rfl
            have cI := inside_any (f := (rest s x).length + 1) (p := x) (c := c') (W := w10) (known := k) (M := M2) (N := N + 32) tag HEC.out hdeep (by rw [rest_len]; omega) HR10.out.own hxs hs hc'4 (HG.out.rd HR10.out hGR) hGR HK10.out HM8.out (by omega)
            unfold nameV at cI
            rw [hlob] at cI
            have HT10' := HT10.out
            unfold nameRow at HT10'
            rw [hlob] at HT10'
            obtain ⟨q0, q1⟩ := row2 HT10'
            clear HE5 HT10'
            go_wp2_with fail
            refine cI.mono ?_
            rintro e w11 (⟨tx, ks, c4, r, kv, hx, rfl, hkv, hc4, hr⟩ | ⟨m, e, hx, rfl, hr⟩)
            · have HE7 : Hid (RES = .ok ((⟨spb, lob, al, ks, X.ba tx, ln, cl⟩, c4), r)) := by show _ = _; rw [HE6.out, hx]
              have HR11 := hid (HR10.out.trans hr)
              have hne : ∀ b, b ≠ R → b < w10.heap.size → w11.heap[b]? = w10.heap[b]? := fun b hb hl => hr.g.block b hl (fun e => hb (Option.some.inj e))
              have HD11 : Hid (w11.heap[D]? = some (nodeRow spb lob (.slice ava aln avc) (.slice none 0 0) ⟨#[]⟩ ln cl)) := (hne D (by have := HSZ.out; omega) (Go.lt_of_block HD10.out)).trans HD10.out
              have HZ11 : Hid (w11.heap[H]? = some (nodeRow ⟨#[]⟩ ⟨#[]⟩ (.slice none 0 0) (.slice none 0 0) ⟨#[]⟩ 0 0)) := (hne H (by have := HSZ.out; omega) (Go.lt_of_block HZ10.out)).trans HZ10.out
              have HF11 : Hid (∀ b, w6.heap.size ≤ b → b < D → w11.heap[b]? = w7.heap[b]?) := by
                have := HSZ.out
                have hl := Go.lt_of_block HD10.out
                intro b h1 h2
                rw [hne b (by omega) (by omega), HF10.out b h2]
              have HDL : Hid (D < w10.heap.size ∧ H < w10.heap.size ∧ w10.heap.size ≤ w11.heap.size) := ⟨Go.lt_of_block HD10.out, Go.lt_of_block HZ10.out, hr.g.size⟩
              obtain ⟨kva, kvc, rfl⟩ := hkv.shape
              have HKV := hid hkv
              obtain ⟨txb, htxb⟩ : ∃ txb, X.ba tx = txb := ⟨_, rfl⟩
              obtain ⟨kn, hkn⟩ : ∃ kn, ks.length = kn := ⟨_, rfl⟩
              rw [htxb] at HE7 ⊢
              rw [hkn] at HKV ⊢
              obtain ⟨w12, hw12⟩ : ∃ w12, (w11.setCell ⟨D, 4, none⟩ (.string txb)).setCell ⟨D, 3, none⟩ (.slice kva kn kvc) = w12 := ⟨_, rfl⟩
              have g12 : w11.grownBy w12 (some D) := by rw [← hw12]; exact (grownBy_set w11 D 4 _).trans (grownBy_set _ D 3 _)
              have HD12 : Hid (w12.heap[D]? = some (nodeRow spb lob (.slice ava aln avc) (.slice kva kn kvc) txb ln cl)) := by
                show _ = _
                rw [← hw12]
                have := row_set (row_set HD11.out 4 (.string txb)) 3 (.slice kva kn kvc)
                simp only [List.setIfInBounds_toArray, List.set_cons_zero, List.set_cons_succ] at this
                exact this
              have HR12 : Hid (Rd W R s (s.size - r.length) c4 w12) := by
                have := HSZ.out
                show Rd _ _ _ _ _ _
                rw [← hw12]
                exact (HR11.out.put (by omega) 4 _).put (by omega) 3 _
              have HZ12 : Hid (w12.heap[H]? = some (nodeRow ⟨#[]⟩ ⟨#[]⟩ (.slice none 0 0) (.slice none 0 0) ⟨#[]⟩ 0 0)) := (g12.block H (Go.lt_of_block HZ11.out) (fun e => by have := Option.some.inj e; have := HSZ.out; omega)).trans HZ11.out
              have HF12 : Hid (∀ b, b ≠ D → b < w11.heap.size → w12.heap[b]? = w11.heap[b]?) := fun b hb hl => g12.block b hl (fun e => hb (Option.some.inj e))
              have z3 := rowFree HD11.out 3
              have z4 := rowFree HD11.out 4
              obtain ⟨-, -, -, y3, y4, -, -⟩ := row7 HD11.out
              have HW12 := hid hw12
              clear hx hr hne cI hkv htxb hkn hw12 g12 HE6 q0 q1
              go_upto_region 14 with fail
              rw [HW12.out]
              clear HW12 HD11 HZ11 z3 z4 y3 y4
              obtain ⟨y0, y1, y2, y3, y4, y5, y6⟩ := row7 HD12.out
              have HZN := HZ12.out
              unfold nodeRow at HZN
              obtain ⟨x0, x1, x2, x3, x4, x5, x6⟩ := row7 HZN
              have f0 := rowFree HZN 0
              have f1 := rowFree HZN 1
              have f2 := rowFree HZN 2
              have f3 := rowFree HZN 3
              have f4 := rowFree HZN 4
              have f5 := rowFree HZN 5
              have f6 := rowFree HZN 6
              have HZN2 := hid HZN
              clear HZN
              go_wp2_with fail
              have gf := st7_grown w12 H (.string spb) (.string lob) (.slice ava aln avc) (.slice kva kn kvc) (.string txb) (.int .i64 ln) (.int .i64 cl)
              have hsz12 := HR12.out.g.size
              have hfar : ∀ b, w6.heap.size ≤ b → b < w7.heap.size → (st7 w12 H (.string spb) (.string lob) (.slice ava aln avc) (.slice kva kn kvc) (.string txb) (.int .i64 ln) (.int .i64 cl)).heap[b]? = w7.heap[b]? := by
                intro b h1 h2
                have := HSZ.out
                have := HDL.out
                have hl : b < w12.heap.size := by have := Go.lt_of_block HD12.out; omega
                rw [gf.block b hl (fun e => by have := Option.some.inj e; omega), HF12.out b (by omega) (by omega), HF11.out b h1 (by omega)]
              have hfar2 : ∀ b, w10.heap.size ≤ b → b < w11.heap.size → (st7 w12 H (.string spb) (.string lob) (.slice ava aln avc) (.slice kva kn kvc) (.string txb) (.int .i64 ln) (.int .i64 cl)).heap[b]? = w11.heap[b]? := by
                intro b h1 h2
                have := HSZ.out
                have := HDL.out
                have h3 := HF12.out b (by omega) h2
                have hl : b < w12.heap.size := by
                  rcases Nat.lt_or_ge b w12.heap.size with h' | h'
                  · exact h'
                  · rw [Array.getElem?_eq_none h', Array.getElem?_eq_getElem h2] at h3
                    cases h3
                rw [gf.block b hl (fun e => by have := Option.some.inj e; omega), h3]
              exact bodyPost_ret (v := .agg #[.string spb, .string lob, .slice ava aln avc, .slice kva kn kvc, .string txb, .int .i64 ln, .int .i64 cl]) (results_cell_row rfl _ _ H 28 _ (0, 0) _ rfl (st7_row HZN2.out _ _ _ _ _ _ _) Tryz.underlying28 rfl sizeNode) rfl (Or.inl ⟨_, _, _, [.string spb, .string lob, .slice ava aln avc, .slice kva kn kvc, .string txb, .int .i64 ln, .int .i64 cl], HE7.out, rfl, ⟨_, _, rfl, X.AIn.keep (fun b hb => hb.via (hfar b hb.1 hb.2.1) (by have := HSZ.out; omega)) (fun b hb => hfar b hb.1 hb.2.1) HAI.out, X.N.In.keep (fun b hb => hb.via (hfar2 b hb.1 hb.2.1) (by have := HSZ.out; have := HDL.out; omega)) (fun b hb => hfar2 b hb.1 hb.2.1) HKV.out⟩, hc4, (((((((HR12.out.put (by have := HSZ.out; omega) 0 _).put (by have := HSZ.out; omega) 1 _).put (by have := HSZ.out; omega) 2 _).put (by have := HSZ.out; omega) 3 _).put (by have := HSZ.out; omega) 4 _).put (by have := HSZ.out; omega) 5 _).put (by have := HSZ.out; omega) 6 _)⟩)
            · have HE7 : Hid (RES = .error (m, e)) := by show _ = _; rw [HE6.out, hx]
              exact ⟨rfl, Or.inr ⟨_, _, HE7.out, rfl, HR10.out.g.trans hr⟩⟩
        · have HE5 : Hid (RES = .error (m, e)) := by show _ = _; rw [HE4.out, hx]
          exact ⟨rfl, Or.inr ⟨_, _, HE5.out, rfl, (HR6.out.below hb7).g⟩⟩
      · have HE4 : Hid (RES = .error (m, e)) := by show _ = _; rw [HE3.out, hx]
        exact ⟨rfl, Or.inr ⟨_, _, HE4.out, rfl, HR5.out.g.trans hr⟩⟩
    · have HE3 : Hid (RES = .error (m, e)) := by show _ = _; rw [HE2.out, hx]
      exact ⟨rfl, Or.inr ⟨_, _, HE3.out, rfl, HR3.out.g.trans hr⟩⟩
  · have HE2 : Hid (RES = .error (m, e)) := by show _ = _; rw [HE1.out, hx]
    exact ⟨rfl, Or.inr ⟨_, _, HE2.out, rfl, HR2.out.g.trans hr⟩⟩
end Go.Proofs.YtakplnceiibmlaaGreatDoor
