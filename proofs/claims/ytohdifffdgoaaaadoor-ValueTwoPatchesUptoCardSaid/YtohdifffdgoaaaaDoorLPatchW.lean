/- The walk of ValuePatched. -/
import Derived.Test.YtohdifffdgoaaaaDoorVWorks
import Derived.Test.YtohdifffdgoaaaaDoorVBindsW
import Derived.Test.YtohdifffdgoaaaaDoorVPut
import Derived.Test.YtohdifffdgoaaaaDoorVBArg
namespace Go.Proofs.YtohdifffdgoaaaaDoor
open Go.RowKit
open Go.Lib (hid)
open V
namespace V
theorem findV_isSome (l : List Bind) (x : List UInt8) : (findV l x).2 = (findB l x).isSome := by
  unfold findV; cases findB l x <;> rfl
theorem upd_case (p : List Bind) (o : Bind) : findV p (upd p o).nm = ((upd p o).v, true) ∨ ((findV p (upd p o).nm).2 = false ∧ upd p o = o) := by
  rw [upd_nm]
  unfold findV upd
  cases h : findB p o.nm with
  | none => exact Or.inr ⟨rfl, rfl⟩
  | some b => exact Or.inl rfl
theorem upd_size {vars p : List Bind} {m : Nat} (h1 : ∀ b ∈ vars, b.name.size ≤ m) (h2 : ∀ b ∈ p, b.name.size ≤ m) : ∀ b ∈ vars.map (upd p), b.name.size ≤ m := fun b hb => by
  obtain ⟨o, ho, rfl⟩ := List.mem_map.1 hb
  unfold upd
  cases h : findB p o.nm with
  | none => exact h1 o ho
  | some c => exact h2 c (findB_some h).1
/-- what stands at a place behind a patch -/
theorem patched_at {vars p : List Bind} (hv : (vars.map Bind.nm).Nodup) (hf : Fit p vars) (k : Nat) (hk : k < vars.length) :
    ∃ (x : ByteArray) (v u : Val), (vars.map (upd p))[k]? = some ⟨x, v⟩ ∧ vars[k]? = some ⟨x, u⟩ ∧ u.k = v.k ∧ (findV p x.data.toList = (v, true) ∨ ((findV p x.data.toList).2 = false ∧ u = v)) := by
  have e0 : vars[k]? = some vars[k] := List.getElem?_eq_getElem hk
  have e1 : (vars.map (upd p))[k]? = some (upd p vars[k]) := by rw [List.getElem?_map, e0]; rfl
  have e2 := upd_kn hv hf (List.getElem_mem hk)
  have e3 := upd_case p vars[k]
  rw [e1, e0]
  clear e0 e1
  generalize vars[k] = o at *
  generalize upd p o = q at *
  obtain ⟨x, v⟩ := q
  obtain ⟨y, u⟩ := o
  simp only [Bind.kn, Prod.mk.injEq, Bind.nm] at e2 e3
  obtain rfl : x = y := bytes_ext e2.1
  refine ⟨x, v, u, rfl, rfl, e2.2.symm, ?_⟩
  rcases e3 with e3 | ⟨e3, e4⟩
  · exact Or.inl e3
  · simp only [Bind.mk.injEq] at e4
    exact Or.inr ⟨e3, e4.2.symm⟩
end V
/-- an answer of Find whose value is known -/
theorem find_is {bs : List Bind} {sv : Value} {nm : ByteArray} {w : World} (hin : BIn w bs sv) (hl : bs.length ≤ 10000000000000) {k : Nat} {n : Int} {b q : Bool} {s : ByteArray} (h : findV bs nm.data.toList = (⟨k, n, b, s⟩, q)) :
    Calls Tryd.prog 22 #[sv, .string nm] w fun e w' => e = .returned (.tuple #[.agg #[.int .u8 k, .int .i64 n, .bool b, .string s], .bool q]) ∧ Below w.heap.size w w' :=
  (find_any bs sv nm w hin hl).mono fun e w' ⟨⟨k', n', b', s', q', h1, h2⟩, h3⟩ => by
    rw [h] at h1
    simp only [Prod.mk.injEq, Val.mk.injEq] at h1
    obtain ⟨⟨rfl, rfl, rfl, rfl⟩, rfl⟩ := h1
    exact ⟨h2, h3⟩

set_option maxRecDepth 100000 in
set_option maxHeartbeats 8000000 in
theorem patched_walk (vars patch : List Bind) (sa sb : Value) (nm : ByteArray) (w : World) (ha : BIn w vars sa) (hb : BIn w patch sb) (hE : VEnv w) (hl : vars.length * 56 ≤ 140737488351232) (hl' : patch.length * 56 ≤ 140737488351232)
    (hz : ∀ b ∈ vars, b.name.size ≤ 9223372036854775807) (hz' : ∀ b ∈ patch, b.name.size ≤ 9223372036854775807) :
    Calls Tryd.prog 6 #[sa, sb, .string nm] w fun e w' => e = .returned (.bool true) ∧ Below w.heap.size w w' := by
  have cP := fun X (h1 : BIn X vars sa) (h2 : BIn X patch sb) (hX : VEnv X) => vput_any vars patch sa sb X h1 h2 hX.tabs (by omega) (by omega) hz hz'
  have HA := hid ha
  have HB := hid hb
  have HE := hid hE
  rcases put_cases vars patch with ⟨e1, e2⟩ | ⟨h1, h2, hf, e⟩
  · obtain ⟨⟨l, r⟩, hR⟩ : ∃ R, put vars patch = R := ⟨_, rfl⟩
    rw [hR] at e1 e2 cP
    simp only at e1 e2
    subst e1
    have t0 : (r != 0) = true := by rw [bne_iff_ne]; exact e2
    clear e2 hR ha hb hE hz hz'
    go_enter Tryd.func6, Tryd.ntmps6
    go_wp2_with fail
    refine (works_any _ HE.out).mono ?_
    rintro e w1 ⟨rfl, b1⟩
    go_wp2_with fail
    refine (cP _ (HA.out.below b1) (HB.out.below b1) (HE.out.below b1)).mono ?_
    rintro e w2 ⟨v, rfl, O2, b2⟩
    have B2 := hid (b1.trans (b2.mono b1.size))
    obtain ⟨a, c, rfl⟩ := O2.is.shape
    clear O2 b2 b1 cP
    go_wp2_with fail
    go_ret
    exact ⟨rfl, B2.out⟩
  · rw [e] at cP
    have hv := ((checkB_zero vars).1 h1).2
    have hat := patched_at hv hf
    have hck := checkB_upd h1 h2
    have htw := put_twice h1 h2 hf
    have hsz := upd_size hz hz'
    have hfs : ∀ x, (findV (vars.map (upd patch)) x).2 = (findV vars x).2 := fun x => by rw [findV_isSome, findV_isSome, findB_upd]
    have hln : (vars.map (upd patch)).length = vars.length := List.length_map _
    obtain ⟨out, ho⟩ : ∃ out, vars.map (upd patch) = out := ⟨_, rfl⟩
    rw [ho] at cP hck htw hsz hln
    rw [ho] at hat
    simp only [ho] at hfs
    have cQ := fun so X (h1 : BIn X out so) (h2 : BIn X patch sb) (hX : VEnv X) => vput_any out patch so sb X h1 h2 hX.tabs (by omega) (by omega) hsz hz'
    simp only [htw] at cQ
    have cC := fun so X (h1 : BIn X out so) (hX : VEnv X) => checkBinds_any out so X h1 hX.tabs (by omega) hsz
    rw [hck] at cC
    have cS := fun so so' X (h1 : BIn X out so) (h2 : BIn X out so') => lsame_yes out so so' X h1 h2 (by omega)
    obtain ⟨n, hn⟩ : ∃ n, vars.length = n := ⟨_, rfl⟩
    rw [hn] at hln hl
    obtain ⟨xa, ca, hsa⟩ := ha.shape
    rw [hn] at hsa
    subst hsa
    have HAT := hid hat
    have HFS := hid hfs
    have HLN := hid hln
    have HN := hid hn
    have HLL := hid hl'
    clear e h1 h2 hf hv hat hck htw hsz hfs hln ho hn hl' ha hb hE hz hz'
    go_enter Tryd.func6, Tryd.ntmps6
    go_wp2_with fail
    refine (works_any _ HE.out).mono ?_
    rintro e w1 ⟨rfl, b1⟩
    go_wp2_with fail
    refine (cP _ (HA.out.below b1) (HB.out.below b1) (HE.out.below b1)).mono ?_
    rintro e w2 ⟨so, rfl, O2, b2⟩
    have B2 := hid (b1.trans (b2.mono b1.size))
    have I2 := hid O2.is
    clear O2 b2 b1 cP
    simp only
    go_wp2_with fail
    refine (cQ _ _ I2.out (HB.out.below B2.out) (HE.out.below B2.out)).mono ?_
    rintro e w3 ⟨so', rfl, O3, b3⟩
    have B3 := hid (B2.out.trans (b3.mono B2.out.size))
    have I3 := hid (I2.out.below b3)
    have J3 := hid O3.is
    clear O3 b3 cQ B2 I2
    obtain ⟨xb, cb, hso⟩ := I3.out.shape
    obtain ⟨xd, cd, hsd⟩ := J3.out.shape
    rw [HLN.out] at hso hsd
    subst hso hsd
    go_wp2_with fail
    refine (cC _ _ I3.out (HE.out.below B3.out)).mono ?_
    rintro e w4 ⟨rfl, b4⟩
    go_wp2_with fail
    refine (cS _ _ _ (I3.out.below b4) (J3.out.below b4)).mono ?_
    rintro e u ⟨rfl, b5⟩
    have b6 := b4.trans (b5.mono b4.size)
    have BU := hid (B3.out.trans (b6.mono B3.out.size))
    have IU := hid (I3.out.below b6)
    have HAU := hid (HA.out.below BU.out)
    have HBU := hid (HB.out.below BU.out)
    clear b4 b5 b6 cC cS B3 I3 J3 HA HB HE
    go_wp2_with fail
    go_loopw [11] (fun i wr => ∃ (k : Nat), k ≤ n ∧ i = .int .i64 k ∧ Hid (Below u.heap.size u wr)) (fun i _ => n - (intOf i).toNat)
    case atStart => exact ⟨0, by omega, rfl, Below.refl _ _⟩
    case round =>
      obtain ⟨k, hk, rfl, hb⟩ := hrel
      by_cases hlt : k < n
      · have hl0 : decide ((k : Int) < (n : Int)) = true := by simp; omega
        have hkp : k < vars.length := by have := HN.out; omega
        have hkp' : k < out.length := by have := HLN.out; omega
        obtain ⟨b, o, _, hsv, hbl, c0, c1, c2, c3, c4⟩ := HAU.out.cells hkp
        rw [HN.out] at hsv
        simp only [Value.slice.injEq, true_and] at hsv
        obtain ⟨rfl, rfl⟩ := hsv
        obtain ⟨b', o', _, hsv, hbl', d0, d1, d2, d3, d4⟩ := IU.out.cells hkp'
        rw [HLN.out] at hsv
        simp only [Value.slice.injEq, true_and] at hsv
        obtain ⟨rfl, rfl⟩ := hsv
        have hk0 : (0 : Int) ≤ (k : Int) := by omega
        have hk1 : (k : Int) < (n : Int) := by omega
        obtain ⟨x, v, y, f1, f2, f3, f4⟩ := HAT.out k hkp
        rw [(List.getElem?_eq_some_iff.1 f2).2] at c0 c1 c2 c3 c4
        rw [(List.getElem?_eq_some_iff.1 f1).2] at d0 d1 d2 d3 d4
        obtain ⟨kk, nn, bb, ss⟩ := v
        obtain ⟨k1, n1, b1, s1⟩ := y
        simp only at f3 c0 c1 c2 c3 c4 d0 d1 d2 d3 d4
        subst f3
        clear f1 f2 hkp hkp'
        have F4 := hid f4
        clear f4
        have t0 : (x.toList != x.toList) = false := by simp
        have t1 : ((k1 : Int) != (k1 : Int)) = false := by simp
        go_wp2_with fail
        refine quiet_lit (C := fun w' => Hid (Below u.heap.size u w')) (by kernel_rfl) (by kernel_rfl) (hid hb.out.drew) ?_
        repeat (first
          | go_big_quiet_skip
          | (go_big_quiet_want
             refine quiet_val (x := ?_) (fun vv hC => ?_) ?_
             rotate_left
             · skip
               have x0 := (hC.out.cell (p := ⟨b, _, none⟩) hbl).trans c0
               have x1 := (hC.out.cell (p := ⟨b, _, none⟩) hbl).trans c1
               have x2 := (hC.out.cell (p := ⟨b, _, none⟩) hbl).trans c2
               have x3 := (hC.out.cell (p := ⟨b, _, none⟩) hbl).trans c3
               have x4 := (hC.out.cell (p := ⟨b, _, none⟩) hbl).trans c4
               have y0 := (hC.out.cell (p := ⟨b', _, none⟩) hbl').trans d0
               have y1 := (hC.out.cell (p := ⟨b', _, none⟩) hbl').trans d1
               have y2 := (hC.out.cell (p := ⟨b', _, none⟩) hbl').trans d2
               have y3 := (hC.out.cell (p := ⟨b', _, none⟩) hbl').trans d3
               have y4 := (hC.out.cell (p := ⟨b', _, none⟩) hbl').trans d4
               clear hC
               go_simp
               with_reducible rfl
             go_big_quiet_on
             try simp only [Act.put, List.setIfInBounds_toArray, List.set_cons_zero, List.set_cons_succ]))
        refine wpQuiet_nil ?_
        intro vq hq
        have hbq := hq.out
        have d0q := (hbq.cell (p := ⟨b', _, none⟩) hbl').trans d0
        have hqs := hbq.size
        clear hb
        rcases F4.out with f4 | ⟨f4, f5⟩
        · have cF := fun X (h : BIn X patch sb) => find_is (nm := x) h (by have := HLL.out; omega) f4
          go_wp2_with fail
          refine (cF _ (HBU.out.below hbq)).mono ?_
          rintro e w5 ⟨rfl, b5⟩
          have B5 := hid (hbq.trans (b5.mono hqs))
          have cS := fun X => same_any k1 k1 nn nn bb bb ss ss X
          rw [sameB_refl] at cS
          have h5 := B5.out.size
          clear F4 cF hbq b5 d0q t1
          go_upto_region 15 with fail
          have HG : Hid (Below u.heap.size u (w5.alloc (.cells #[.int .u8 k1, .int .i64 nn, .bool bb, .string ss] 23)) ∧ (w5.alloc (.cells #[.int .u8 k1, .int .i64 nn, .bool bb, .string ss] 23)).heap[w5.heap.size]? = some (.cells #[.int .u8 k1, .int .i64 nn, .bool bb, .string ss] 23 (0, 0))) := ⟨B5.out.alloc h5 _, heap_alloc_new w5 _⟩
          generalize World.alloc w5 _ = w6 at *
          generalize w5.heap.size = g at *
          refine quiet_lit (C := fun w' => Hid (Below u.heap.size u w' ∧ w'.heap[g]? = some (.cells #[.int .u8 k1, .int .i64 nn, .bool bb, .string ss] 23 (0, 0)))) (by kernel_rfl) (by kernel_rfl) (hid ⟨HG.out.1.drew, HG.out.2⟩) ?_
          repeat (first
            | go_big_quiet_skip
            | (go_big_quiet_want
               refine quiet_val (x := ?_) (fun vv hC => ?_) ?_
               rotate_left
               · skip
                 have x0 := (hC.out.1.cell (p := ⟨b, _, none⟩) hbl).trans c0
                 have x1 := (hC.out.1.cell (p := ⟨b, _, none⟩) hbl).trans c1
                 have x2 := (hC.out.1.cell (p := ⟨b, _, none⟩) hbl).trans c2
                 have x3 := (hC.out.1.cell (p := ⟨b, _, none⟩) hbl).trans c3
                 have x4 := (hC.out.1.cell (p := ⟨b, _, none⟩) hbl).trans c4
                 have y0 := (hC.out.1.cell (p := ⟨b', _, none⟩) hbl').trans d0
                 have y1 := (hC.out.1.cell (p := ⟨b', _, none⟩) hbl').trans d1
                 have y2 := (hC.out.1.cell (p := ⟨b', _, none⟩) hbl').trans d2
                 have y3 := (hC.out.1.cell (p := ⟨b', _, none⟩) hbl').trans d3
                 have y4 := (hC.out.1.cell (p := ⟨b', _, none⟩) hbl').trans d4
                 obtain ⟨z0, z1, z2, z3⟩ := row4 hC.out.2
                 clear hC
                 go_simp
                 with_reducible rfl
               go_big_quiet_on
               try simp only [Act.put, List.setIfInBounds_toArray, List.set_cons_zero, List.set_cons_succ])
            | (go_big_quiet_want
               refine quiet_call (f := ?_) (args := ?_) (x := ?_) (fun vv hC => ?_) (fun vv hC => ?_) ?_
               rotate_left 3
               · go_simp
                 first | with_reducible rfl | (apply And.intro <;> with_reducible rfl)
               · first
                   | (go_at_call 36; with_reducible refine (cS _).mono ?_; rintro e ww ⟨rfl, bb⟩; refine And.intro ?_ (hid ⟨hC.out.1.trans (bb.mono hC.out.1.size), (bb.block _ (Go.lt_of_block hC.out.2)).trans hC.out.2⟩); with_reducible rfl)
               go_big_quiet_on
               try simp only [Act.put, List.setIfInBounds_toArray, List.set_cons_zero, List.set_cons_succ]))
          refine wpQuiet_nil ?_
          intro vq hq
          go_wp2_with fail
          go_roundw
          case rel => exact ⟨k + 1, by omega, by go_num, hid hq.out.1⟩
          case measure => simp [intOf]; omega
        · obtain ⟨⟨⟨k2, n2, b2, s2⟩, q⟩, hF⟩ : ∃ R, findV patch x.data.toList = R := ⟨_, rfl⟩
          rw [hF] at f4
          simp only at f4
          subst f4
          simp only [Val.mk.injEq, true_and] at f5
          obtain ⟨rfl, rfl, rfl⟩ := f5
          have cF := fun X (h : BIn X patch sb) => find_is (nm := x) h (by have := HLL.out; omega) hF
          clear hF
          go_wp2_with fail
          refine (cF _ (HBU.out.below hbq)).mono ?_
          rintro e w5 ⟨rfl, b5⟩
          have B5 := hid (hbq.trans (b5.mono hqs))
          have cS := fun X => same_any k1 k1 n1 n1 b1 b1 s1 s1 X
          rw [sameB_refl] at cS
          have h5 := B5.out.size
          clear F4 cF hbq b5 d0q t1
          go_upto_region 15 with fail
          have HG : Hid (Below u.heap.size u (w5.alloc (.cells #[.int .u8 k2, .int .i64 n2, .bool b2, .string s2] 23)) ∧ (w5.alloc (.cells #[.int .u8 k2, .int .i64 n2, .bool b2, .string s2] 23)).heap[w5.heap.size]? = some (.cells #[.int .u8 k2, .int .i64 n2, .bool b2, .string s2] 23 (0, 0))) := ⟨B5.out.alloc h5 _, heap_alloc_new w5 _⟩
          generalize World.alloc w5 _ = w6 at *
          generalize w5.heap.size = g at *
          refine quiet_lit (C := fun w' => Hid (Below u.heap.size u w' ∧ w'.heap[g]? = some (.cells #[.int .u8 k2, .int .i64 n2, .bool b2, .string s2] 23 (0, 0)))) (by kernel_rfl) (by kernel_rfl) (hid ⟨HG.out.1.drew, HG.out.2⟩) ?_
          repeat (first
            | go_big_quiet_skip
            | (go_big_quiet_want
               refine quiet_val (x := ?_) (fun vv hC => ?_) ?_
               rotate_left
               · skip
                 have x0 := (hC.out.1.cell (p := ⟨b, _, none⟩) hbl).trans c0
                 have x1 := (hC.out.1.cell (p := ⟨b, _, none⟩) hbl).trans c1
                 have x2 := (hC.out.1.cell (p := ⟨b, _, none⟩) hbl).trans c2
                 have x3 := (hC.out.1.cell (p := ⟨b, _, none⟩) hbl).trans c3
                 have x4 := (hC.out.1.cell (p := ⟨b, _, none⟩) hbl).trans c4
                 have y0 := (hC.out.1.cell (p := ⟨b', _, none⟩) hbl').trans d0
                 have y1 := (hC.out.1.cell (p := ⟨b', _, none⟩) hbl').trans d1
                 have y2 := (hC.out.1.cell (p := ⟨b', _, none⟩) hbl').trans d2
                 have y3 := (hC.out.1.cell (p := ⟨b', _, none⟩) hbl').trans d3
                 have y4 := (hC.out.1.cell (p := ⟨b', _, none⟩) hbl').trans d4
                 obtain ⟨z0, z1, z2, z3⟩ := row4 hC.out.2
                 clear hC
                 go_simp
                 with_reducible rfl
               go_big_quiet_on
               try simp only [Act.put, List.setIfInBounds_toArray, List.set_cons_zero, List.set_cons_succ])
            | (go_big_quiet_want
               refine quiet_call (f := ?_) (args := ?_) (x := ?_) (fun vv hC => ?_) (fun vv hC => ?_) ?_
               rotate_left 3
               · go_simp
                 first | with_reducible rfl | (apply And.intro <;> with_reducible rfl)
               · first
                   | (go_at_call 36; with_reducible refine (cS _).mono ?_; rintro e ww ⟨rfl, bb⟩; refine And.intro ?_ (hid ⟨hC.out.1.trans (bb.mono hC.out.1.size), (bb.block _ (Go.lt_of_block hC.out.2)).trans hC.out.2⟩); with_reducible rfl)
               go_big_quiet_on
               try simp only [Act.put, List.setIfInBounds_toArray, List.set_cons_zero, List.set_cons_succ]))
          refine wpQuiet_nil ?_
          intro vq hq
          go_wp2_with fail
          go_roundw
          case rel => exact ⟨k + 1, by omega, by go_num, hid hq.out.1⟩
          case measure => simp [intOf]; omega
      · have hl0 : decide ((k : Int) < (n : Int)) = false := by simp; omega
        obtain ⟨⟨⟨k2, n2, b2, s2⟩, q⟩, hF⟩ : ∃ R, findV vars nm.data.toList = R := ⟨_, rfl⟩
        obtain ⟨⟨⟨k3, n3, b3, s3⟩, q'⟩, hF'⟩ : ∃ R, findV out nm.data.toList = R := ⟨_, rfl⟩
        have hqq := HFS.out nm.data.toList
        rw [hF, hF'] at hqq
        simp only at hqq
        subst hqq
        have cF := fun X (h : BIn X vars (.slice xa n ca)) => find_is (nm := nm) h (by have := HN.out; omega) hF
        have cG := fun X (h : BIn X out (.slice xb n cb)) => find_is (nm := nm) h (by have := HLN.out; omega) hF'
        clear hF hF'
        go_wp2_with fail
        refine (cF _ (HAU.out.below hb.out)).mono ?_
        rintro e w5 ⟨rfl, b5⟩
        have B5 := hb.out.trans (b5.mono hb.out.size)
        clear cF b5
        go_upto_region 18 with fail
        have B6 := hid (B5.alloc B5.size (.cells #[.int .u8 k2, .int .i64 n2, .bool b2, .string s2] 23))
        clear B5
        generalize World.alloc w5 _ = w6 at *
        go_wp2_with fail
        refine (cG _ (IU.out.below B6.out)).mono ?_
        rintro e w7 ⟨rfl, b7⟩
        have B7 := B6.out.trans (b7.mono B6.out.size)
        have B8 := hid (BU.out.trans ((B7.alloc B7.size (.cells #[.int .u8 k3, .int .i64 n3, .bool b3, .string s3] 23)).mono BU.out.size))
        clear B7 b7 cG
        go_wp2_with fail
        go_ret
        exact ⟨rfl, B8.out⟩
theorem patched_law (l0 : List Bind) (v0 : Value) (l1 : List Bind) (v1 : Value) (nm : ByteArray) (w : World) (i0 : BIn w l0 v0) (m0 : ∀ q ∈ l0, q.may) (n0 : l0.length * 56 ≤ 140737488351232) (i1 : BIn w l1 v1) (m1 : ∀ q ∈ l1, q.may) (n1 : l1.length * 56 ≤ 140737488351232) (_ : nm.size ≤ 140737488351232) (hE : VEnv w) :
    Calls Tryd.prog 6 #[v0, v1, .string nm] w fun e w' => e = .returned (.bool true) ∧ Below w.heap.size w w' :=
  patched_walk l0 l1 v0 v1 nm w i0 i1 hE n0 n1 (fun b hb => by have := (m0 b hb).1; unfold maxLen at this; omega) (fun b hb => by have := (m1 b hb).1; unfold maxLen at this; omega)
end Go.Proofs.YtohdifffdgoaaaaDoor
