/- The walk of ValueBinds. -/
import Derived.Test.YtohdifffdgoaaaaDoorVRefP
import Derived.Test.YtohdifffdgoaaaaDoorVBArg
namespace Go.Proofs.YtohdifffdgoaaaaDoor
open Go.RowKit
open Go.Lib (hid)
open V Srt
theorem own_new (w : World) : BOwn w.heap.size [] (.slice (some ⟨w.heap.size, 0, none⟩) 0 0) (w.alloc (.cells #[] 43)) :=
  ⟨rfl, Or.inr ⟨w.heap.size, 0, #[], rfl, Nat.le_refl _, heap_alloc_new w _, Nat.le_refl _, by decide, rfl, rfl⟩⟩
theorem rowB_setn (z : Int) : ∀ (os : List Bind) (i : Nat) (b : Bind), os[i]? = some b → rowB (os.set i ⟨b.name, ⟨b.v.k, z, b.v.b, b.v.s⟩⟩) = (rowB os).set (i * 5 + 2) (.int .i64 z)
  | [], i, b, h => by simp at h
  | p :: r, 0, b, h => by
    obtain rfl : p = b := by simpa using h
    rfl
  | p :: r, i + 1, b, h => by
    have ih := rowB_setn z r i b (by simpa using h)
    rw [List.set_cons_succ]
    unfold rowB
    rw [ih]
    simp only [Bind.cells, List.cons_append, List.nil_append]
    rw [show (i + 1) * 5 + 2 = (i * 5 + 2) + 1 + 1 + 1 + 1 + 1 by omega]
    simp only [List.set_cons_succ]
theorem BOwn_setn {B g cap N i : Nat} {os : List Bind} {w : World} {b : Bind} (h : BOwn B os (.slice (some ⟨g, 0, none⟩) N cap) w) (hN : os.length = N) (hb : os[i]? = some b) (z : Int) :
    BOwn B (os.set i ⟨b.name, ⟨b.v.k, z, b.v.b, b.v.s⟩⟩) (.slice (some ⟨g, 0, none⟩) N cap) (w.setCell ⟨g, i * 5 + 2, none⟩ (.int .i64 z)) := by
  subst hN
  unfold BOwn at h ⊢
  rw [List.length_set, rowB_setn z os i b hb]
  exact (World.ownsRow.stored h (i * 5 + 2) _).1
theorem BOwn_other {B B' g cap N i : Nat} {os cs : List Bind} {v u : Value} {w : World} (h : BOwn B os v w) (h' : BOwn B' cs (.slice (some ⟨g, 0, none⟩) N cap) w) (hN : cs.length = N) (hg : g < B) : BOwn B os v (w.setCell ⟨g, i, none⟩ u) := by
  subst hN
  refine World.ownsRow.kept h (World.ownsRow.stored h' i u).2 (Or.inr fun e => ?_)
  have := (World.ownsRow.lt h g e).1
  omega
theorem stab_same {cv cs ds : List Bind} (h : Stab Bind.nm cv cs) (g : Stab Bind.nm cv ds) : ds = cs := (sorted_unique cs ds h.2.2 g.2.2 (h.2.1.symm.trans g.2.1)).symm
/-- a row of the call's own whose names are written over -/
def Spoilt (B n : Nat) (v : Value) (w : World) : Prop := ∃ cells, World.ownsRow w B 43 5 v n cells
theorem Spoilt.of {B : Nat} {os : List Bind} {v : Value} {w : World} (h : BOwn B os v w) : Spoilt B os.length v w := ⟨_, h⟩
theorem Spoilt.cell {B g n cap i : Nat} {w : World} (h : Spoilt B n (.slice (some ⟨g, 0, none⟩) n cap) w) (hi : i < n) : (∃ u, w.cell? ⟨g, i * 5, none⟩ = some u) ∧ w.frozen? ⟨g, i * 5, none⟩ = false ∧ B ≤ g := by
  obtain ⟨cells, h⟩ := h
  have hl : cells.length = n * 5 := h.1
  refine ⟨⟨cells[i * 5]'(by omega), ?_⟩, World.ownsRow.frozenAt h _, (World.ownsRow.lt h g rfl).1⟩
  rw [World.ownsRow.cellAt h (i * 5) (by omega), List.getElem?_eq_getElem]
theorem Spoilt.set {B g n cap i : Nat} {w : World} {u : Value} (h : Spoilt B n (.slice (some ⟨g, 0, none⟩) n cap) w) : Spoilt B n (.slice (some ⟨g, 0, none⟩) n cap) (w.setCell ⟨g, i, none⟩ u) := by
  obtain ⟨cells, h⟩ := h
  exact ⟨_, (World.ownsRow.stored h i u).1⟩
theorem Spoilt.form {B n m c : Nat} {a : Option Addr} {w : World} (h : Spoilt B n (.slice a m c) w) (hn : 0 < m) (hm : m = n) : ∃ g, a = some ⟨g, 0, none⟩ := by
  obtain ⟨cells, h⟩ := h
  rcases h.2 with ⟨h1, _⟩ | ⟨g, cap, cur, h1, _⟩
  · simp only [Value.slice.injEq] at h1
    omega
  · simp only [Value.slice.injEq] at h1
    exact ⟨g, h1.1⟩
theorem Spoilt.below {B n : Nat} {v : Value} {w w' : World} (h : Spoilt B n v w) (hb : Below w.heap.size w w') : Spoilt B n v w' := by
  obtain ⟨cells, h⟩ := h
  exact ⟨cells, World.ownsRow.kept (row := none) h ⟨hb.os, hb.tape, hb.output, hb.size, fun k hk _ => hb.block k hk⟩ (Classical.em _)⟩
theorem Spoilt.other {B B' g n k cap i : Nat} {v u : Value} {w : World} (h : Spoilt B k v w) (h' : Spoilt B' n (.slice (some ⟨g, 0, none⟩) n cap) w) (hg : g < B) : Spoilt B k v (w.setCell ⟨g, i, none⟩ u) := by
  obtain ⟨cells, h⟩ := h
  obtain ⟨cells', h'⟩ := h'
  exact ⟨cells, World.ownsRow.kept h (World.ownsRow.stored h' i u).2 (Or.inr fun e => by have := (World.ownsRow.lt h g e).1; omega)⟩
theorem find_at {bs : List Bind} {sv : Value} {nm : ByteArray} {w : World} (hin : BIn w bs sv) (hl : bs.length ≤ 10000000000000) {k : Nat} {n : Int} {b q : Bool} {s : ByteArray} (h : findV bs nm.data.toList = (⟨k, n, b, s⟩, q)) :
    Calls Tryd.prog 22 #[sv, .string nm] w fun e w' => e = .returned (.tuple #[.agg #[.int .u8 k, .int .i64 n, .bool b, .string s], .bool q]) ∧ Below w.heap.size w w' :=
  (find_any bs sv nm w hin hl).mono fun e w' ⟨⟨k', n', b', s', q', h1, h2⟩, h3⟩ => by
    rw [h] at h1
    simp only [Prod.mk.injEq, Val.mk.injEq] at h1
    obtain ⟨⟨rfl, rfl, rfl, rfl⟩, rfl⟩ := h1
    exact ⟨h2, h3⟩
def Fits (cv : List Bind) : Prop := ∀ b ∈ cv, b.name.size ≤ 9223372036854775807 ∧ b.v.s.size ≤ 9223372036854775807
theorem Fits.set {cv : List Bind} {i : Nat} {b : Bind} {z : Int} (h : Fits cv) (hb : cv[i]? = some b) : Fits (cv.set i ⟨b.name, ⟨b.v.k, z, b.v.b, b.v.s⟩⟩) := fun c hc => by
  rcases List.mem_or_eq_of_mem_set hc with hc | rfl
  · exact h c hc
  · exact h b (List.mem_of_getElem? hb)
set_option maxRecDepth 100000 in
set_option maxHeartbeats 6000000 in
theorem binds_walk (vars patch : List Bind) (sa sb : Value) (nm : ByteArray) (at_ : Int) (w : World) (ha : BIn w vars sa) (hb : BIn w patch sb) (hT : Tabs w) (hl : vars.length * 56 ≤ 140737488351232) (hl' : patch.length * 56 ≤ 140737488351232)
    (hz : Fits vars) (hz' : Fits patch) (hat0 : -9223372036854775808 ≤ at_) (hat1 : at_ ≤ 9223372036854775807) :
    Calls Tryd.prog 4 #[sa, sb, .string nm, .int .i64 at_] w fun e w' => e = .returned (.bool true) ∧ Below w.heap.size w w' := by
  have HA := hid ha
  have HB := hid hb
  have HT := hid hT
  have HZ := hid hz
  have HZP := hid hz'
  obtain ⟨n, hn⟩ : ∃ n, vars.length = n := ⟨_, rfl⟩
  obtain ⟨np, hnp⟩ : ∃ n, patch.length = n := ⟨_, rfl⟩
  rw [hn] at hl
  rw [hnp] at hl'
  have HN := hid hn
  have HNP := hid hnp
  clear ha hb hT hz hz' hn hnp
  have hs1 := own_new w
  have HN1 := hid hs1
  have HBA := hid ((Below.refl w.heap.size w).alloc (Nat.le_refl _) (.cells #[] 43))
  have HIA := hid (HA.out.below HBA.out)
  clear hs1
  go_enter Tryd.func4, Tryd.ntmps4
  go_wp2_with (at_builtin; refine wpList_app_binds rfl _ _ rfl w.heap.size [] vars _ _ rfl HN1.out rfl HIA.out (by have := HN.out; simp; omega) (by simp) ?_)
  intro va w1 hown hgrow
  have OA1 : Hid (BOwn w.heap.size vars va w1) := by
    show BOwn _ _ _ _
    first | exact hown | (rw [List.nil_append] at hown; exact hown)
  have B1 := hid (HBA.out.grown hgrow (by simp) (fun g hq => (World.ownsRow.lt HN1.out g hq).1))
  clear hown hgrow HN1 HBA HIA
  go_upto_region 2 with fail
  have HN2 := hid (own_new w1)
  have HBB := hid ((Below.refl w1.heap.size w1).alloc (Nat.le_refl _) (.cells #[] 43))
  have HIB := hid ((HB.out.below B1.out).below HBB.out)
  go_wp2_with (at_builtin; refine wpList_app_binds rfl _ _ rfl w1.heap.size [] patch _ _ rfl HN2.out rfl HIB.out (by have := HNP.out; simp; omega) (by simp) ?_)
  intro vb w2 hown hgrow
  have OB2 : Hid (BOwn w1.heap.size patch vb w2) := by
    show BOwn _ _ _ _
    first | exact hown | (rw [List.nil_append] at hown; exact hown)
  have B2 := hid (HBB.out.grown hgrow (by simp) (fun g hq => (World.ownsRow.lt HN2.out g hq).1))
  clear hown hgrow HN2 HBB HIB
  have HGA : Hid (∀ g, va.ownBlock = some g → g < w1.heap.size) := fun g hg => (World.ownsRow.lt OA1.out g hg).2
  obtain ⟨xa, ca, hva⟩ := OA1.out.is.shape
  rw [HN.out] at hva
  subst hva
  obtain ⟨xb, cb, hvb⟩ := OB2.out.is.shape
  rw [HNP.out] at hvb
  subst hvb
  go_wp2_with fail
  go_loopw [11] (fun vr wr => ∃ (r : Nat) (cv : List Bind), r ≤ 2 ∧ vr = .int .i64 r ∧ Hid (BOwn w.heap.size cv (.slice xa n ca) wr ∧ BOwn w1.heap.size patch (.slice xb np cb) wr ∧ Below w.heap.size w wr ∧ cv.length = n ∧ Fits cv)) (fun vr _ => 2 - (intOf vr).toNat)
  case atStart => exact ⟨0, vars, by omega, rfl, hid ⟨OA1.out.below B2.out, OB2.out, B1.out.trans (B2.out.mono B1.out.size), HN.out, HZ.out⟩⟩
  case round =>
    obtain ⟨r, cv, hr, rfl, hS⟩ := hrel
    rename World => wo
    clear OA1 OB2 B1 B2
    by_cases hlt : r < 2
    · have hl0 : decide ((r : Int) < 2) = true := by simp; omega
      have HAN := hid hS.out.2.2.2.1
      have HAZ := hid hS.out.2.2.2.2
      go_upto_region 6 with fail
      have HN3 := hid (own_new wo)
      have HBC := hid ((Below.refl wo.heap.size wo).alloc (Nat.le_refl _) (.cells #[] 43))
      have HIC := hid (hS.out.1.is.below HBC.out)
      go_wp2_with (at_builtin; refine wpList_app_binds rfl _ _ rfl wo.heap.size [] cv _ _ rfl HN3.out rfl HIC.out (by have := HAN.out; simp; omega) (by simp) ?_)
      intro vw w3 hown hgrow
      have IW : Hid (BIn w3 cv vw) := by
        show BIn _ _ _
        first | exact hown.is | (rw [List.nil_append] at hown; exact hown.is)
      have B3 := hid (HBC.out.grown hgrow (by simp) (fun g hq => (World.ownsRow.lt HN3.out g hq).1))
      have IA := hid (hS.out.1.is.below B3.out)
      have IB := hid (hS.out.2.1.is.below B3.out)
      have BW3 := hid (hS.out.2.2.1.trans (B3.out.mono hS.out.2.2.1.size))
      have IP := hid (HB.out.below BW3.out)
      have TT := hid (Utf8Tabs_below HT.out BW3.out)
      clear hown hgrow HN3 HBC HIC
      obtain ⟨xw, cw, hvw⟩ := IW.out.shape
      rw [HAN.out] at hvw
      subst hvw
      have D3 := hid (Below.refl w3.heap.size w3)
      obtain ⟨⟨⟨fk, fn, fb, fs⟩, fq⟩, hF⟩ : ∃ F, findV cv nm.data.toList = F := ⟨_, rfl⟩
      have HF := hid hF
      clear hF
      go_wp2_with fail
      refine (find_at IA.out (by have := HAN.out; omega) HF.out).mono ?_
      rintro e w4 ⟨rfl, bb⟩
      have D4 := hid (D3.out.trans (bb.mono D3.out.size))
      clear bb D3
      have HR5 := hid (heap_alloc_new w4 (.cells #[.int .u8 fk, .int .i64 fn, .bool fb, .string fs] 23))
      have BA := hid ((Below.refl w4.heap.size w4).alloc (Nat.le_refl _) (.cells #[.int .u8 fk, .int .i64 fn, .bool fb, .string fs] 23))
      have HSZ5 : Hid (w4.heap.size < (w4.alloc (.cells #[.int .u8 fk, .int .i64 fn, .bool fb, .string fs] 23)).heap.size) := by show _ < _; simp
      go_upto_region 8 with fail
      generalize w4.alloc (.cells #[.int .u8 fk, .int .i64 fn, .bool fb, .string fs] 23) = w5 at *
      obtain ⟨A, hA⟩ : ∃ z, w4.heap.size = z := ⟨_, rfl⟩
      have D5 := hid (D4.out.trans (BA.out.mono D4.out.size))
      have BX5 := BA.out
      rw [hA] at HR5 HSZ5 BX5 ⊢
      clear hA BA D4
      clear BX5
      go_wp2_with fail
      refine (refFind_at cv _ nm _ (IW.out.below D5.out) (by have := HAN.out; omega) HF.out).mono ?_
      rintro e w6 ⟨rfl, bb⟩
      have HRA6 := hid ((bb.block _ HSZ5.out).trans HR5.out)
      have HSA6 := hid (Nat.lt_of_lt_of_le HSZ5.out bb.size)
      clear HR5 HSZ5
      have D6 := hid (D5.out.trans (bb.mono D5.out.size))
      clear bb D5
      have HR7 := hid (heap_alloc_new w6 (.cells #[.int .u8 fk, .int .i64 fn, .bool fb, .string fs] 23))
      have BA := hid ((Below.refl w6.heap.size w6).alloc (Nat.le_refl _) (.cells #[.int .u8 fk, .int .i64 fn, .bool fb, .string fs] 23))
      have HSZ7 : Hid (w6.heap.size < (w6.alloc (.cells #[.int .u8 fk, .int .i64 fn, .bool fb, .string fs] 23)).heap.size) := by show _ < _; simp
      go_upto_region 9 with fail
      generalize w6.alloc (.cells #[.int .u8 fk, .int .i64 fn, .bool fb, .string fs] 23) = w7 at *
      obtain ⟨C, hA⟩ : ∃ z, w6.heap.size = z := ⟨_, rfl⟩
      have D7 := hid (D6.out.trans (BA.out.mono D6.out.size))
      have BX7 := BA.out
      rw [hA] at HR7 HSZ7 BX7 HSA6 ⊢
      clear hA BA D6
      have HRA7 := hid ((BX7.block _ HSA6.out).trans HRA6.out)
      have HSA7 := hid (Nat.lt_trans HSA6.out HSZ7.out)
      clear BX7 HRA6 HSA6
      go_wp2_with fail
      refine (sorted_any cv _ _ (IA.out.below D7.out) (by have := HAN.out; omega)).mono ?_
      rintro e w8 ⟨vl, cs, rfl, hst, ho, bb⟩
      have HST := hid hst
      have HCN : Hid (cs.length = n) := hst.1.trans HAN.out
      have OL8 : Hid (BOwn w3.heap.size cs vl w8) := BOwn.mono ho D7.out.size
      clear hst ho
      have HRA8 := hid ((bb.block _ HSA7.out).trans HRA7.out)
      have HSA8 := hid (Nat.lt_of_lt_of_le HSA7.out bb.size)
      have HR8 := hid ((bb.block _ HSZ7.out).trans HR7.out)
      have HSZ8 := hid (Nat.lt_of_lt_of_le HSZ7.out bb.size)
      clear HRA7 HSA7 HR7 HSZ7
      have D8 := hid (D7.out.trans (bb.mono D7.out.size))
      clear bb D7
      obtain ⟨xl, cl, hvl⟩ := OL8.out.is.shape
      rw [HCN.out] at hvl
      subst hvl
      have HGL : Hid (∀ g, (Value.slice xl n cl).ownBlock = some g → g < w8.heap.size) := fun g hg => (World.ownsRow.lt OL8.out g hg).2
      obtain ⟨⟨ps, pe⟩, hR⟩ : ∃ R, put cv patch = R := ⟨_, rfl⟩
      have cP := vput_any cv patch _ _ _ (IA.out.below D8.out) (IB.out.below D8.out) (Utf8Tabs_below TT.out D8.out) (by have := HAN.out; omega) (by have := HNP.out; omega) (fun b hb => (HAZ.out b hb).1) (fun b hb => (HZP.out b hb).1)
      have cQ := fun X (h1 : BIn X cv (.slice xw n cw)) (h2 : BIn X patch sb) => refPut_any cv patch _ _ X h1 h2 (by have := HAN.out; omega) (by have := HNP.out; omega) HAZ.out HZP.out
      rw [hR] at cP
      simp only [hR] at cQ
      have HP := hid cP
      have HQ := hid cQ
      have HPL : Hid (ps.length ≤ n) := by
        show _ ≤ _
        rcases put_cases cv patch with ⟨e1, _⟩ | ⟨_, _, _, e⟩
        · rw [hR] at e1
          simp only at e1
          rw [e1]; simp
        · rw [hR] at e
          have h1 := congrArg Prod.fst e
          simp only at h1
          rw [h1, List.length_map, HAN.out]; exact Nat.le_refl _
      clear hR cP cQ
      go_wp2_with fail
      refine (HP.out).mono ?_
      rintro e w9 ⟨vp, rfl, ho, bb⟩
      have OP9 : Hid (BOwn w8.heap.size ps vp w9) := ho
      have OL9 := hid (OL8.out.below bb)
      have HW8 := hid D8.out.size
      clear ho OL8 HP
      have HRA9 := hid ((bb.block _ HSA8.out).trans HRA8.out)
      have HSA9 := hid (Nat.lt_of_lt_of_le HSA8.out bb.size)
      have HR9 := hid ((bb.block _ HSZ8.out).trans HR8.out)
      have HSZ9 := hid (Nat.lt_of_lt_of_le HSZ8.out bb.size)
      clear HRA8 HSA8 HR8 HSZ8
      have D9 := hid (D8.out.trans (bb.mono D8.out.size))
      clear bb D8
      obtain ⟨k, hk⟩ : ∃ k, ps.length = k := ⟨_, rfl⟩
      have hkn : k ≤ n := by have := HPL.out; omega
      have HK := hid hk
      clear hk
      obtain ⟨xp, cp, hvp⟩ := OP9.out.is.shape
      rw [HK.out] at hvp
      subst hvp
      simp only
      go_wp2_with fail
      refine (HQ.out _ (IW.out.below D9.out) (IP.out.below D9.out)).mono ?_
      rintro e w10 ⟨vq, rfl, ho, bb⟩
      have IQ10 := hid ho.is
      have OL10 := hid (OL9.out.below bb)
      have OP10 := hid (OP9.out.below bb)
      clear ho OL9 OP9 HQ
      have HRA10 := hid ((bb.block _ HSA9.out).trans HRA9.out)
      have HSA10 := hid (Nat.lt_of_lt_of_le HSA9.out bb.size)
      have HR10 := hid ((bb.block _ HSZ9.out).trans HR9.out)
      have HSZ10 := hid (Nat.lt_of_lt_of_le HSZ9.out bb.size)
      clear HRA9 HSA9 HR9 HSZ9
      have D10 := hid (D9.out.trans (bb.mono D9.out.size))
      clear bb D9
      simp only
      obtain ⟨E, hE⟩ : ∃ x, checkB cv = x := ⟨_, rfl⟩
      have cK := fun X h1 h2 => checkBinds_any cv (.slice xa n ca) X h1 h2 (by have := HAN.out; omega) (fun b hb => (HAZ.out b hb).1)
      have cR := fun X h1 => refCheckBinds_any cv (.slice xw n cw) X h1 (by have := HAN.out; omega) HAZ.out
      rw [hE] at cK cR
      have HCK := hid cK
      have HCR := hid cR
      clear hE cK cR
      go_wp2_with fail
      refine (HCK.out _ (IA.out.below D10.out) (Utf8Tabs_below TT.out D10.out)).mono ?_
      rintro e w11 ⟨rfl, bb⟩
      have OL11 := hid (OL10.out.below bb)
      have OP11 := hid (OP10.out.below bb)
      have IQ11 := hid (IQ10.out.below bb)
      clear OL10 OP10 IQ10 HCK
      have HRA11 := hid ((bb.block _ HSA10.out).trans HRA10.out)
      have HSA11 := hid (Nat.lt_of_lt_of_le HSA10.out bb.size)
      have HR11 := hid ((bb.block _ HSZ10.out).trans HR10.out)
      have HSZ11 := hid (Nat.lt_of_lt_of_le HSZ10.out bb.size)
      clear HRA10 HSA10 HR10 HSZ10
      have D11 := hid (D10.out.trans (bb.mono D10.out.size))
      clear bb D10
      have tE : (E != E) = false := by simp
      have tq : (fq != fq) = false := by simp
      go_wp2_with fail
      refine (HCR.out _ (IW.out.below D11.out)).mono ?_
      rintro e w12 ⟨rfl, bb⟩
      have OL12 := hid (OL11.out.below bb)
      have OP12 := hid (OP11.out.below bb)
      have IQ12 := hid (IQ11.out.below bb)
      clear OL11 OP11 IQ11 HCR
      have HRA12 := hid ((bb.block _ HSA11.out).trans HRA11.out)
      have HSA12 := hid (Nat.lt_of_lt_of_le HSA11.out bb.size)
      have HR12 := hid ((bb.block _ HSZ11.out).trans HR11.out)
      have HSZ12 := hid (Nat.lt_of_lt_of_le HSZ11.out bb.size)
      clear HRA11 HSA11 HR11 HSZ11
      have D12 := hid (D11.out.trans (bb.mono D11.out.size))
      clear bb D11
      obtain ⟨x0, x1, x2, x3⟩ := row4 HRA12.out
      obtain ⟨y0, y1, y2, y3⟩ := row4 HR12.out
      clear HRA12 HSA12 HR12 HSZ12
      have cC := fun X => refCmp_any fk fk fn fn fb fb fs fs X
      rw [cmp_refl] at cC
      have HC := hid cC
      clear cC
      go_wp2_with fail
      refine (HC.out _).mono ?_
      rintro e w13 ⟨rfl, bb⟩
      have OL13 := hid (OL12.out.below bb)
      have OP13 := hid (OP12.out.below bb)
      have IQ13 := hid (IQ12.out.below bb)
      clear OL12 OP12 IQ12 HC x0 x1 x2 x3 y0 y1 y2 y3
      have D13 := hid (D12.out.trans (bb.mono D12.out.size))
      clear bb D12
      go_wp2_with fail
      refine (refSorted_any cv _ _ (IW.out.below D13.out) (by have := HAN.out; omega)).mono ?_
      rintro e w14 ⟨vs, ds, rfl, hst, ho, bb⟩
      have hds := stab_same HST.out hst
      rw [hds] at ho
      have IS14 := hid ho.is
      have OL14 := hid (OL13.out.below bb)
      have OP14 := hid (OP13.out.below bb)
      have IQ14 := hid (IQ13.out.below bb)
      clear OL13 OP13 IQ13 hst ho hds HST
      have D14 := hid (D13.out.trans (bb.mono D13.out.size))
      clear bb D13
      go_wp2_with fail
      refine (refBinds_yes cs _ _ _ OL14.out.is IS14.out (by have := HCN.out; omega)).mono ?_
      rintro e w15 ⟨rfl, bb⟩
      have OL15 := hid (OL14.out.below bb)
      have OP15 := hid (OP14.out.below bb)
      have IQ15 := hid (IQ14.out.below bb)
      clear OL14 OP14 IQ14 IS14
      have D15 := hid (D14.out.trans (bb.mono D14.out.size))
      clear bb D14
      have tp : (pe != pe) = false := by simp
      go_wp2_with fail
      refine (refBinds_yes ps _ _ _ OP15.out.is IQ15.out (by have := HPL.out; omega)).mono ?_
      rintro e w16 ⟨rfl, bb⟩
      have SL : Hid (Spoilt w3.heap.size n (.slice xl n cl) w16) := by
        have h := Spoilt.of (OL15.out.below bb)
        rw [HCN.out] at h
        exact h
      have SP : Hid (Spoilt w8.heap.size k (.slice xp k cp) w16) := by
        have h := Spoilt.of (OP15.out.below bb)
        rw [HK.out] at h
        exact h
      clear OL15 OP15 IQ15
      have D16 := hid (D15.out.trans (bb.mono D15.out.size))
      clear bb D15
      clear tE tq tp
      go_wp2_with fail
      go_loopw [22] (fun vi wz => ∃ (i : Nat), i ≤ n ∧ vi = .int .i64 i ∧ Hid (Spoilt w3.heap.size n (.slice xl n cl) wz ∧ Spoilt w8.heap.size k (.slice xp k cp) wz ∧ Below w3.heap.size w3 wz)) (fun vi _ => n - (intOf vi).toNat)
      case atStart => exact ⟨0, by omega, rfl, hid ⟨SL.out, SP.out, D16.out⟩⟩
      case round =>
        obtain ⟨i, hi, rfl, hI⟩ := hrel
        rename World => wy
        clear SL SP D16
        by_cases hin : i < n
        · have hl1 : decide ((i : Int) < (n : Int)) = true := by simp; omega
          obtain ⟨g, rfl⟩ := Spoilt.form hI.out.1 (by omega) rfl
          obtain ⟨⟨u, hu⟩, hf, hgB⟩ := Spoilt.cell hI.out.1 hin
          have I0 : (0 : Int) ≤ (i : Int) := by omega
          have I1 : (i : Int) < (n : Int) := by omega
          go_wp2_with fail
          go_roundw
          case rel => exact ⟨i + 1, by omega, by go_num, hid ⟨Spoilt.set hI.out.1, Spoilt.other hI.out.2.1 hI.out.1 (HGL.out g rfl), hI.out.2.2.setCell (p := ⟨g, _, none⟩) hgB _⟩⟩
          case measure => simp [intOf]; omega
        · have hl1 : decide ((i : Int) < (n : Int)) = false := by simp; omega
          have SP := hid hI.out.2.1
          have D17 := hid hI.out.2.2
          clear hI
          go_wp2_with fail
          go_loopw [23] (fun vi wz => ∃ (j : Nat), j ≤ k ∧ vi = .int .i64 j ∧ Hid (Spoilt w8.heap.size k (.slice xp k cp) wz ∧ Below w3.heap.size w3 wz)) (fun vi _ => k - (intOf vi).toNat)
          case atStart => exact ⟨0, by omega, rfl, hid ⟨SP.out, D17.out⟩⟩
          case round =>
            obtain ⟨j, hj, rfl, hJ⟩ := hrel
            rename World => wv
            clear SP D17
            by_cases hjk : j < k
            · have hl2 : decide ((j : Int) < (k : Int)) = true := by simp; omega
              obtain ⟨g, rfl⟩ := Spoilt.form hJ.out.1 (by omega) rfl
              obtain ⟨⟨u, hu⟩, hf, hgB⟩ := Spoilt.cell hJ.out.1 hjk
              have I0 : (0 : Int) ≤ (j : Int) := by omega
              have I1 : (j : Int) < (k : Int) := by omega
              go_wp2_with fail
              go_roundw
              case rel => exact ⟨j + 1, by omega, by go_num, hid ⟨Spoilt.set hJ.out.1, hJ.out.2.setCell (p := ⟨g, _, none⟩) (Nat.le_trans HW8.out hgB) _⟩⟩
              case measure => simp [intOf]; omega
            · have hl2 : decide ((j : Int) < (k : Int)) = false := by simp; omega
              have D18 := hid hJ.out.2
              clear hJ
              go_wp2_with fail
              refine (refBinds_yes cv _ _ _ (IA.out.below D18.out) (IW.out.below D18.out) (by have := HAN.out; omega)).mono ?_
              rintro e w19 ⟨rfl, bb⟩
              have D19 := hid (D18.out.trans (bb.mono D18.out.size))
              clear bb D18
              go_wp2_with fail
              refine (refBinds_yes patch _ _ _ (IB.out.below D19.out) (IP.out.below D19.out) (by have := HNP.out; omega)).mono ?_
              rintro e w20 ⟨rfl, bb⟩
              have D20 := hid (D19.out.trans (bb.mono D19.out.size))
              have BO := hid (B3.out.trans (D20.out.mono B3.out.size))
              have OA := hid (hS.out.1.below BO.out)
              have OB := hid (hS.out.2.1.below BO.out)
              have BW := hid (hS.out.2.2.1.trans (BO.out.mono hS.out.2.2.1.size))
              clear bb D19 D20 hS BW3 B3 IA IW IB IP BO
              by_cases hneg : at_ < 0
              · have a1 : decide ((0 : Int) ≤ at_) = false := by simp; omega
                have a2 : ¬ (0 : Int) ≤ at_ := by omega
                go_wp2_with fail
                go_roundw
                case rel => exact ⟨r + 1, cv, by omega, by go_num, hid ⟨OA.out, OB.out, BW.out, HAN.out, HAZ.out⟩⟩
                case measure => simp [intOf]; omega
              · obtain ⟨t, rfl⟩ := Int.eq_ofNat_of_zero_le (show 0 ≤ at_ by omega)
                have a1 : decide ((0 : Int) ≤ (t : Int)) = true := by simp
                have a2 : (0 : Int) ≤ (t : Int) := by omega
                by_cases htn : t < n
                · have a3 : decide ((t : Int) < (n : Int)) = true := by simp; omega
                  have a4 : (t : Int) < (n : Int) := by omega
                  obtain ⟨g, rfl, hgB⟩ := own_form OA.out (by omega)
                  obtain ⟨⟨yn, ⟨yk, yi, yb, ys⟩⟩, hy⟩ : ∃ y, cv[t]? = some y := ⟨_, List.getElem?_eq_getElem (by rw [HAN.out]; exact htn)⟩
                  obtain ⟨c0, c1, c2, c3, c4⟩ := bown_cells OA.out HAN.out htn hy
                  have hfz := bown_free OA.out HAN.out (t * 5 + 2)
                  have HY := hid hy
                  obtain ⟨z, hz⟩ : ∃ z, IntKind.i64.wrap (yi + 1) = z := ⟨_, rfl⟩
                  clear hy c0 c1 c3 c4
                  go_wp2_with fail
                  go_roundw
                  case rel => exact ⟨r + 1, cv.set t ⟨yn, ⟨yk, z, yb, ys⟩⟩, by omega, by go_num, hid ⟨BOwn_setn OA.out HAN.out HY.out z, BOwn_other OB.out OA.out HAN.out (HGA.out g rfl), BW.out.setCell (p := ⟨g, _, none⟩) hgB _, by rw [List.length_set]; exact HAN.out, HAZ.out.set HY.out⟩⟩
                  case measure => simp [intOf]; omega
                · have a3 : decide ((t : Int) < (n : Int)) = false := by simp; omega
                  go_wp2_with fail
                  go_roundw
                  case rel => exact ⟨r + 1, cv, by omega, by go_num, hid ⟨OA.out, OB.out, BW.out, HAN.out, HAZ.out⟩⟩
                  case measure => simp [intOf]; omega
    · have hl0 : decide ((r : Int) < 2) = false := by simp; omega
      go_wp2_with fail
      go_ret
      exact ⟨rfl, hS.out.2.2.1⟩
theorem binds_law (l0 : List Bind) (v0 : Value) (l1 : List Bind) (v1 : Value) (nm : ByteArray) (at_ : Int) (w : World) (i0 : BIn w l0 v0) (m0 : ∀ q ∈ l0, q.may) (n0 : l0.length * 56 ≤ 140737488351232) (i1 : BIn w l1 v1) (m1 : ∀ q ∈ l1, q.may) (n1 : l1.length * 56 ≤ 140737488351232) (_ : nm.size ≤ 140737488351232) (hi : -9223372036854775808 ≤ at_ ∧ at_ ≤ 9223372036854775807) (hT : Tabs w) :
    Calls Tryd.prog 4 #[v0, v1, .string nm, .int .i64 at_] w fun e w' => e = .returned (.bool true) ∧ Below w.heap.size w w' :=
  binds_walk l0 l1 v0 v1 nm at_ w i0 i1 hT n0 n1 (fun b hb => by have := m0 b hb; unfold V.Bind.may maxLen at this; exact ⟨by omega, by omega⟩) (fun b hb => by have := m1 b hb; unfold V.Bind.may maxLen at this; exact ⟨by omega, by omega⟩) hi.1 hi.2
end Go.Proofs.YtohdifffdgoaaaaDoor
