/- ModelSame: the walk of the statement. -/
import Derived.Test.YteejphiklpnjhaaGreatDoorOA8
import Derived.Test.YteejphiklpnjhaaGreatDoorOA5
namespace Go.Proofs.YteejphiklpnjhaaGreatDoor
set_option maxRecDepth 100000
set_option maxHeartbeats 16000000
open Go.RowKit Go.Maps
open Go.Lib (hid)
theorem msame_walk (xs ys : List Value) (x y : Mdl) (W : World) (hx : MIn W x xs) (hy : MIn W y ys) (cx : x.cut) (cy : y.cut) (hE : EnvO W) :
   Calls Tryz.prog 4 #[.agg xs.toArray, .agg ys.toArray] W fun e w' => e = .returned (.bool true) ∧ Below W.heap.size W w' := by
 obtain ⟨ma, mb, mc, md, me, mg, rfl⟩ := hx.eq
 obtain ⟨na, nb, nc, nd, ne, ng, rfl⟩ := hy.eq
 have HE := hid hE
 have HX := hid hx
 have HY := hid hy
 have HCX := hid cx
 have HCY := hid cy
 obtain ⟨H, hH⟩ : ∃ H, W.heap.size = H := ⟨_, rfl⟩
 obtain ⟨w2, hw2⟩ : ∃ u, (W.alloc (.cells #[.string x.id, .string x.nm, .slice ma x.vs.length mb, .slice mc x.es.length md, .slice me x.fs.length mg] 30)).alloc (.cells #[.string y.id, .string y.nm, .slice na y.vs.length nb, .slice nc y.es.length nd, .slice ne y.fs.length ng] 30) = u := ⟨_, rfl⟩
 have HB2 : Hid (BX W H [.string x.id, .string x.nm, .slice ma x.vs.length mb, .slice mc x.es.length md, .slice me x.fs.length mg] [.string y.id, .string y.nm, .slice na y.vs.length nb, .slice nc y.es.length nd, .slice ne y.fs.length ng] w2) := by
   show BX _ _ _ _ _
   rw [← hw2, ← hH]
   exact bx_first W _ _
 have HW2 := hid hw2
 have HHE := hid hH
 have hcx := cx
 have hcy := cy
 unfold Mdl.cut at hcx hcy
 obtain ⟨vl, hvl⟩ : ∃ n, x.vs.length = n := ⟨_, rfl⟩
 obtain ⟨el, hel⟩ : ∃ n, x.es.length = n := ⟨_, rfl⟩
 obtain ⟨fl, hfl⟩ : ∃ n, x.fs.length = n := ⟨_, rfl⟩
 obtain ⟨vl', hvl'⟩ : ∃ n, y.vs.length = n := ⟨_, rfl⟩
 obtain ⟨el', hel'⟩ : ∃ n, y.es.length = n := ⟨_, rfl⟩
 obtain ⟨fl', hfl'⟩ : ∃ n, y.fs.length = n := ⟨_, rfl⟩
 obtain ⟨l1, l2, l3⟩ := hcx
 obtain ⟨l4, l5, l6⟩ := hcy
 have HFX : Hid (x.few ↔ el + fl + vl ≤ 2000) := by show _ ↔ _; unfold Mdl.few; rw [hvl, hel, hfl]
 have HFY : Hid (y.few ↔ el' + fl' + vl' ≤ 2000) := by show _ ↔ _; unfold Mdl.few; rw [hvl', hel', hfl']
 obtain ⟨a0, a1, a2, a3, a4, -, -, -, -, -⟩ := rowN5 HB2.out.x
 obtain ⟨b0, b1, b2, b3, b4, -, -, -, -, -⟩ := rowN5 HB2.out.y
 rw [hvl] at l1 a2
 rw [hel] at l2 a3
 rw [hfl] at l3 a4
 rw [hvl'] at l4 b2
 rw [hel'] at l5 b3
 rw [hfl'] at l6 b4
 clear hE hx hy cx cy hw2 hH hvl hel hfl hvl' hel' hfl'
 go_enter Tryz.func4, Tryz.ntmps4
 go_upto_region 1 with fail
 rw [HW2.out, HHE.out]
 clear HW2
 by_cases hbig : el + fl + vl ≤ 2000
 rotate_left
 · have t0 : decide ((2000 : Int) < (el : Int) + fl + vl) = true := decide_eq_true (by omega)
   have t1 : decide (2000 < el + fl + vl) = true := decide_eq_true (by omega)
   have cA := awake_any w2 (HE.out.below HB2.out.b)
   go_wp2_with fail
   refine cA.mono ?_
   rintro e wz ⟨rfl, hz⟩
   have HZ := hid ((HB2.out.b).trans (hz.mono (HB2.out.b).size))
   clear hz cA
   go_wp2_with fail
   go_ret
   exact ⟨rfl, HZ.out⟩
 have t0 : decide ((2000 : Int) < (el : Int) + fl + vl) = false := decide_eq_false (by omega)
 have t1 : decide (2000 < el + fl + vl) = false := decide_eq_false (by omega)
 by_cases hbig2 : el' + fl' + vl' ≤ 2000
 rotate_left
 · have t2 : decide ((2000 : Int) < (el' : Int) + fl' + vl') = true := decide_eq_true (by omega)
   have t3 : decide (2000 < el' + fl' + vl') = true := decide_eq_true (by omega)
   have cA := awake_any w2 (HE.out.below HB2.out.b)
   go_wp2_with fail
   refine cA.mono ?_
   rintro e wz ⟨rfl, hz⟩
   have HZ := hid ((HB2.out.b).trans (hz.mono (HB2.out.b).size))
   clear hz cA
   go_wp2_with fail
   go_ret
   exact ⟨rfl, HZ.out⟩
 have t2 : decide ((2000 : Int) < (el' : Int) + fl' + vl') = false := decide_eq_false (by omega)
 have t3 : decide (2000 < el' + fl' + vl') = false := decide_eq_false (by omega)
 have HX2 : Hid (x.few) := HFX.out.2 hbig
 have HY2 : Hid (y.few) := HFY.out.2 hbig2
 go_upto_region 3 with fail
 clear t0 t1 t2 t3 hbig hbig2 l1 l2 l3 l4 l5 l6 a0 a1 a2 a3 a4 b0 b1 b2 b3 b4 HFX HFY
 obtain ⟨a0, a1, a2, a3, a4, -, -, -, -, -⟩ := rowN5 HB2.out.x
 have cT := rtwin_any (HX.out.below HB2.out.b) HX2.out
 go_wp2_with fail
 refine cT.mono ?_
 rintro e w3 ⟨ci, rfl, hown, hb⟩
 clear cT a0 a1 a2 a3 a4
 obtain ⟨ia, ib, ic, id, ie, ig, rfl⟩ := hown.in.eq
 obtain ⟨Q, hQ⟩ : ∃ Q, w3.heap.size = Q := ⟨_, rfl⟩
 obtain ⟨w4, hw4⟩ : ∃ u, w3.alloc (.cells #[.string x.id, .string x.nm, .slice ia x.vs.length ib, .slice ic x.es.length id, .slice ie x.fs.length ig] 30) = u := ⟨_, rfl⟩
 have hb4 : Below w3.heap.size w3 w4 := by rw [← hw4]; exact (Below.refl _ w3).alloc (Nat.le_refl _) _
 have HQ4 : Hid (w4.heap[Q]? = some (.cells #[.string x.id, .string x.nm, .slice ia x.vs.length ib, .slice ic x.es.length id, .slice ie x.fs.length ig] 30 (0, 0))) := by show _ = _; rw [← hw4, ← hQ]; exact heap_alloc_new w3 _
 have HB4 := hid ((HB2.out.below hb).below hb4)
 have HI4 := hid (hown.below hb4)
 have HQB : Hid (H + 2 ≤ w2.heap.size ∧ w2.heap.size ≤ Q ∧ Q < w4.heap.size ∧ w4.heap.size = Q + 1) := by
   show _ ∧ _ ∧ _ ∧ _
   have h1 := Go.lt_of_block HB2.out.y
   have h2 := hb.size
   have h3 : w4.heap.size = Q + 1 := by rw [← hw4, ← hQ]; simp
   omega
 have HW4 := hid hw4
 have HQE := hid hQ
 clear hown hb hb4 hw4 hQ
 go_upto_region 4 with fail
 rw [HW4.out, HQE.out]
 clear HW4 HQE
 have HCT : Hid (∀ U, Below w4.heap.size w4 U → Calls Tryz.prog 10 #[.agg #[.string x.id, .string x.nm, .slice ia x.vs.length ib, .slice ic x.es.length id, .slice ie x.fs.length ig]] U (TwinS x U)) := fun U h => twin_any (HI4.out.in.below h) HX2.out
 have HG0 := hid (RG.first w4 x (Below.refl w4.heap.size w4).drew)
 obtain ⟨B, hB⟩ : ∃ B, w4.heap.size = B := ⟨_, rfl⟩
 have HBE := hid hB
 have HCI : Hid (∀ k, inRows [.string x.id, .string x.nm, .slice ia x.vs.length ib, .slice ic x.es.length id, .slice ie x.fs.length ig] k → k < B) := fun k hk => by rw [← hB]; exact (HI4.out.rows k hk).2
 clear hB
 go_cut [6, 7] (fun s6 s7 wc => ∃ (p q : Nat) (aa : Option Addr) (ab : Nat) (ac : Option Addr) (ad : Nat) (ae : Option Addr) (ag : Nat) (ba : Option Addr) (bb : Nat) (bc : Option Addr) (bd : Nat) (be : Option Addr) (bg : Nat), s6 = .pointer (some ⟨p, 0, none⟩) ∧ s7 = .pointer (some ⟨q, 0, none⟩) ∧ Hid (LX W H Q p q x y [.string x.id, .string x.nm, .slice ma x.vs.length mb, .slice mc x.es.length md, .slice me x.fs.length mg] [.string y.id, .string y.nm, .slice na y.vs.length nb, .slice nc y.es.length nd, .slice ne y.fs.length ng] [.string x.id, .string x.nm, .slice ia x.vs.length ib, .slice ic x.es.length id, .slice ie x.fs.length ig] [.string x.id, .string x.nm, .slice aa x.vs.length ab, .slice ac x.es.length ad, .slice ae x.fs.length ag] [.string x.id, .string x.nm, .slice ba x.vs.length bb, .slice bc x.es.length bd, .slice be x.fs.length bg] B wc) ∧ Hid (∃ N, (∀ k, inRows [.string x.id, .string x.nm, .slice aa x.vs.length ab, .slice ac x.es.length ad, .slice ae x.fs.length ag] k → k < N) ∧ ∀ k, inRows [.string x.id, .string x.nm, .slice ba x.vs.length bb, .slice bc x.es.length bd, .slice be x.fs.length bg] k → N ≤ k))
 case first =>
   obtain rfl := HBE.out
   refine wp_region_till (S := (fun U : World => U.heap[Q]? = some (.cells #[.string x.id, .string x.nm, .slice ia x.vs.length ib, .slice ic x.es.length id, .slice ie x.fs.length ig] 30 (0, 0)))) 6 (by kernel_rfl) ?_
   have HS : Hid ((fun U : World => U.heap[Q]? = some (.cells #[.string x.id, .string x.nm, .slice ia x.vs.length ib, .slice ic x.es.length id, .slice ie x.fs.length ig] 30 (0, 0))) (World.drew w4)) := HQ4.out
   generalize World.drew w4 = y0 at HS HG0 ⊢
   refine wpTill_load 0 [0, 6] (oi := ?oi16) (v := ?v16) ?ho16 (by kernel_rfl) (by kernel_rfl) (by kernel_rfl) (by kernel_rfl) ?hq16 (Or.inl ⟨?hw16, ?hy16⟩) HS.out ?rest16
   case ho16 => rfl
   case hw16 => rfl
   case hy16 =>
     intro w hSw
     obtain ⟨i0, i1, i2, i3, i4, -, -, -, -, -⟩ := rowN5 hSw
     clear hSw
     go_simp
     try with_reducible rfl
   case hq16 => exact fun _ _ _ h => h
   refine wpTill_load 2 [2, 3, 6] (oi := ?oi17) (v := ?v17) ?ho17 (by kernel_rfl) (by kernel_rfl) (by kernel_rfl) (by kernel_rfl) ?hq17 (Or.inl ⟨?hw17, ?hy17⟩) HS.out ?rest17
   case ho17 => rfl
   case hw17 => rfl
   case hy17 =>
     intro w hSw
     obtain ⟨i0, i1, i2, i3, i4, -, -, -, -, -⟩ := rowN5 hSw
     clear hSw
     go_simp
     try with_reducible rfl
   case hq17 => exact fun _ _ _ h => h
   refine wpTill_ready (rs := [1, 4, 5]) (by kernel_rfl) (by decide) ?_
   refine AllTill.consH (o := ?oi18) ?ho18 (fun K hK => ?step18) ?more18
   case ho18 => rfl
   case step18 =>
     go_simp
     refine (HCT.out _ HG0.out.bb).mono ?_
     rintro e y1 ⟨ca, rfl, hown, hb⟩
     obtain ⟨aa, ab, ac, ad, ae, ag, rfl⟩ := hown.in.eq
     have HG1 := hid (HG0.out.one hb hown)
     have HK1 := hid ((HG1.out.bb.block Q HQB.out.2.2.1).trans HQ4.out)
     clear hown hb
     try dsimp only
     refine hK.out _ _ (fun _ => HK1.out) (fun hHeld => ?_)
     have HS18 := hid (hHeld (by kernel_rfl))
     clear hHeld hK K
     refine wpTill_ready (rs := [3, 4, 5]) (by kernel_rfl) (by decide) ?_
     refine AllTill.consH (o := ?oi19) ?ho19 (fun K hK => ?step19) ?more19
     case ho19 => rfl
     case step19 =>
      go_simp
      refine (HCT.out _ HG1.out.bb).mono ?_
      rintro e y2 ⟨cb, rfl, hown, hb⟩
      obtain ⟨ba, bb, bc, bd, be, bg, rfl⟩ := hown.in.eq
      have HG2 := hid (HG1.out.two hb hown)
      have HK2 := hid ((HG2.out.bb.block Q HQB.out.2.2.1).trans HQ4.out)
      clear hown hb
      try dsimp only
      refine hK.out _ _ (fun _ => HK2.out) (fun hHeld => ?_)
      have HS19 := hid (hHeld (by kernel_rfl))
      clear hHeld hK K
      refine wpTill_ready (rs := [4, 5]) (by kernel_rfl) (by decide) ?_
      refine AllTill.consH (o := ?oi20) ?ho20 (fun K hK => ?step20) ?more20
      case ho20 => rfl
      case step20 =>
        go_simp
        obtain ⟨p6, hP⟩ : ∃ P, y2.heap.size = P := ⟨_, rfl⟩
        obtain ⟨y3, hy⟩ : ∃ u, y2.alloc (.cells #[.string ⟨#[]⟩, .string ⟨#[]⟩, .slice none 0 0, .slice none 0 0, .slice none 0 0] 30) = u := ⟨_, rfl⟩
        have HG3 := hid (HG2.out.newP hP hy)
        have HK3 := hid ((HG3.out.bb.block Q HQB.out.2.2.1).trans HQ4.out)
        rw [hP, hy]
        clear hP hy
        refine hK.out _ _ (fun _ => HK3.out) (fun hHeld => ?_)
        have HS20 := hid (hHeld (by kernel_rfl))
        clear hHeld hK K
        refine wpTill_ready (rs := [5]) (by kernel_rfl) (by decide) ?_
        refine AllTill.consH (o := ?oi21) ?ho21 (fun K hK => ?step21) ?more21
        case ho21 => rfl
        case step21 =>
          go_simp
          obtain ⟨p7, hP⟩ : ∃ P, y3.heap.size = P := ⟨_, rfl⟩
          obtain ⟨y4, hy⟩ : ∃ u, y3.alloc (.cells #[.string ⟨#[]⟩, .string ⟨#[]⟩, .slice none 0 0, .slice none 0 0, .slice none 0 0] 30) = u := ⟨_, rfl⟩
          have HG4 := hid (HG3.out.newQ hP hy)
          have HK4 := hid ((HG4.out.bb.block Q HQB.out.2.2.1).trans HQ4.out)
          rw [hP, hy]
          clear hP hy
          refine hK.out _ _ (fun _ => HK4.out) (fun hHeld => ?_)
          have HS21 := hid (hHeld (by kernel_rfl))
          clear hHeld hK K
          refine wpTill_ready (rs := [6]) (by kernel_rfl) (by decide) ?_
          refine AllTill.consH (o := ?oi22) ?ho22 (fun K hK => ?step22) ?more22
          case ho22 => rfl
          case step22 =>
            have r6 := rowN5 (HG4.out.pp p6 rfl).2
            have r7 := rowN5 (HG4.out.qq p7 rfl).2
            obtain ⟨r60, r61, r62, r63, r64, s60, s61, s62, s63, s64⟩ := r6
            obtain ⟨r70, r71, r72, r73, r74, s70, s71, s72, s73, s74⟩ := r7
            have hne := HG4.out.dd p6 p7 rfl rfl
            have hne2 := Ne.symm hne
            go_simp
            refine hK.out _ _ (fun hk => by cases (show true = false from hk)) (fun _ => ?_)
            clear hK K
            refine wpTill_ready (rs := [7]) (by kernel_rfl) (by decide) ?_
            refine AllTill.consH (o := ?oi23) ?ho23 (fun K hK => ?step23) ?more23
            case ho23 => rfl
            case step23 =>
              go_simp
              refine hK.out _ _ (fun hk => by cases (show true = false from hk)) (fun _ => ?_)
              clear hK K
              refine wpTill_done (by kernel_rfl) ?_ _
              clear r60 r61 r62 r63 r64 r70 r71 r72 r73 r74 s60 s61 s62 s63 s64 s70 s71 s72 s73 s74 hne hne2
              obtain ⟨g1, g2, g3, g4, g5⟩ := lw_made (cm := [.string x.id, .string x.nm, .slice ma x.vs.length mb, .slice mc x.es.length md, .slice me x.fs.length mg]) (cn := [.string y.id, .string y.nm, .slice na y.vs.length nb, .slice nc y.es.length nd, .slice ne y.fs.length ng]) (ci := [.string x.id, .string x.nm, .slice ia x.vs.length ib, .slice ic x.es.length id, .slice ie x.fs.length ig]) (Q := Q) HB4.out.b HHE.out HG4.out HB4.out.x HB4.out.y HQ4.out (HX.out.below HB4.out.b) (HY.out.below HB4.out.b) HI4.out.in rfl rfl
              go_wp2_with fail
              go_meet
              exact ⟨p6, p7, aa, ab, ac, ad, ae, ag, ba, bb, bc, bd, be, bg, rfl, rfl, hid ⟨g1, g2, g3, (HI4.out.below g5).low (by have := HQB.out; omega), g5.size⟩, hid g4⟩
            case more23 =>
              exact AllTill.nil
          case more22 =>
            exact AllTill.nil
        case more21 =>
          exact AllTill.nil
      case more20 =>
        refine AllTill.consH (o := ?oi24) ?ho24 (fun K hK => ?step24) ?more24
        case ho24 => rfl
        case step24 =>
          go_simp
          obtain ⟨p7, hP⟩ : ∃ P, y2.heap.size = P := ⟨_, rfl⟩
          obtain ⟨y3, hy⟩ : ∃ u, y2.alloc (.cells #[.string ⟨#[]⟩, .string ⟨#[]⟩, .slice none 0 0, .slice none 0 0, .slice none 0 0] 30) = u := ⟨_, rfl⟩
          have HG3 := hid (HG2.out.newQ hP hy)
          have HK3 := hid ((HG3.out.bb.block Q HQB.out.2.2.1).trans HQ4.out)
          rw [hP, hy]
          clear hP hy
          refine hK.out _ _ (fun _ => HK3.out) (fun hHeld => ?_)
          have HS24 := hid (hHeld (by kernel_rfl))
          clear hHeld hK K
          refine wpTill_ready (rs := [4]) (by kernel_rfl) (by decide) ?_
          refine AllTill.consH (o := ?oi25) ?ho25 (fun K hK => ?step25) ?more25
          case ho25 => rfl
          case step25 =>
            go_simp
            obtain ⟨p6, hP⟩ : ∃ P, y3.heap.size = P := ⟨_, rfl⟩
            obtain ⟨y4, hy⟩ : ∃ u, y3.alloc (.cells #[.string ⟨#[]⟩, .string ⟨#[]⟩, .slice none 0 0, .slice none 0 0, .slice none 0 0] 30) = u := ⟨_, rfl⟩
            have HG4 := hid (HG3.out.newP hP hy)
            have HK4 := hid ((HG4.out.bb.block Q HQB.out.2.2.1).trans HQ4.out)
            rw [hP, hy]
            clear hP hy
            refine hK.out _ _ (fun _ => HK4.out) (fun hHeld => ?_)
            have HS25 := hid (hHeld (by kernel_rfl))
            clear hHeld hK K
            refine wpTill_ready (rs := [6]) (by kernel_rfl) (by decide) ?_
            refine AllTill.consH (o := ?oi26) ?ho26 (fun K hK => ?step26) ?more26
            case ho26 => rfl
            case step26 =>
              have r6 := rowN5 (HG4.out.pp p6 rfl).2
              have r7 := rowN5 (HG4.out.qq p7 rfl).2
              obtain ⟨r60, r61, r62, r63, r64, s60, s61, s62, s63, s64⟩ := r6
              obtain ⟨r70, r71, r72, r73, r74, s70, s71, s72, s73, s74⟩ := r7
              have hne := HG4.out.dd p6 p7 rfl rfl
              have hne2 := Ne.symm hne
              go_simp
              refine hK.out _ _ (fun hk => by cases (show true = false from hk)) (fun _ => ?_)
              clear hK K
              refine wpTill_ready (rs := [7]) (by kernel_rfl) (by decide) ?_
              refine AllTill.consH (o := ?oi27) ?ho27 (fun K hK => ?step27) ?more27
              case ho27 => rfl
              case step27 =>
                go_simp
                refine hK.out _ _ (fun hk => by cases (show true = false from hk)) (fun _ => ?_)
                clear hK K
                refine wpTill_done (by kernel_rfl) ?_ _
                clear r60 r61 r62 r63 r64 r70 r71 r72 r73 r74 s60 s61 s62 s63 s64 s70 s71 s72 s73 s74 hne hne2
                obtain ⟨g1, g2, g3, g4, g5⟩ := lw_made (cm := [.string x.id, .string x.nm, .slice ma x.vs.length mb, .slice mc x.es.length md, .slice me x.fs.length mg]) (cn := [.string y.id, .string y.nm, .slice na y.vs.length nb, .slice nc y.es.length nd, .slice ne y.fs.length ng]) (ci := [.string x.id, .string x.nm, .slice ia x.vs.length ib, .slice ic x.es.length id, .slice ie x.fs.length ig]) (Q := Q) HB4.out.b HHE.out HG4.out HB4.out.x HB4.out.y HQ4.out (HX.out.below HB4.out.b) (HY.out.below HB4.out.b) HI4.out.in rfl rfl
                go_wp2_with fail
                go_meet
                exact ⟨p6, p7, aa, ab, ac, ad, ae, ag, ba, bb, bc, bd, be, bg, rfl, rfl, hid ⟨g1, g2, g3, (HI4.out.below g5).low (by have := HQB.out; omega), g5.size⟩, hid g4⟩
              case more27 =>
                exact AllTill.nil
            case more26 =>
              exact AllTill.nil
          case more25 =>
            exact AllTill.nil
        case more24 =>
          exact AllTill.nil
     case more19 =>
      refine AllTill.consH (o := ?oi28) ?ho28 (fun K hK => ?step28) ?more28
      case ho28 => rfl
      case step28 =>
        go_simp
        obtain ⟨p6, hP⟩ : ∃ P, y1.heap.size = P := ⟨_, rfl⟩
        obtain ⟨y2, hy⟩ : ∃ u, y1.alloc (.cells #[.string ⟨#[]⟩, .string ⟨#[]⟩, .slice none 0 0, .slice none 0 0, .slice none 0 0] 30) = u := ⟨_, rfl⟩
        have HG2 := hid (HG1.out.newP hP hy)
        have HK2 := hid ((HG2.out.bb.block Q HQB.out.2.2.1).trans HQ4.out)
        rw [hP, hy]
        clear hP hy
        refine hK.out _ _ (fun _ => HK2.out) (fun hHeld => ?_)
        have HS28 := hid (hHeld (by kernel_rfl))
        clear hHeld hK K
        refine wpTill_ready (rs := [3, 5]) (by kernel_rfl) (by decide) ?_
        refine AllTill.consH (o := ?oi29) ?ho29 (fun K hK => ?step29) ?more29
        case ho29 => rfl
        case step29 =>
          go_simp
          refine (HCT.out _ HG2.out.bb).mono ?_
          rintro e y3 ⟨cb, rfl, hown, hb⟩
          obtain ⟨ba, bb, bc, bd, be, bg, rfl⟩ := hown.in.eq
          have HG3 := hid (HG2.out.two hb hown)
          have HK3 := hid ((HG3.out.bb.block Q HQB.out.2.2.1).trans HQ4.out)
          clear hown hb
          try dsimp only
          refine hK.out _ _ (fun _ => HK3.out) (fun hHeld => ?_)
          have HS29 := hid (hHeld (by kernel_rfl))
          clear hHeld hK K
          refine wpTill_ready (rs := [5]) (by kernel_rfl) (by decide) ?_
          refine AllTill.consH (o := ?oi30) ?ho30 (fun K hK => ?step30) ?more30
          case ho30 => rfl
          case step30 =>
            go_simp
            obtain ⟨p7, hP⟩ : ∃ P, y3.heap.size = P := ⟨_, rfl⟩
            obtain ⟨y4, hy⟩ : ∃ u, y3.alloc (.cells #[.string ⟨#[]⟩, .string ⟨#[]⟩, .slice none 0 0, .slice none 0 0, .slice none 0 0] 30) = u := ⟨_, rfl⟩
            have HG4 := hid (HG3.out.newQ hP hy)
            have HK4 := hid ((HG4.out.bb.block Q HQB.out.2.2.1).trans HQ4.out)
            rw [hP, hy]
            clear hP hy
            refine hK.out _ _ (fun _ => HK4.out) (fun hHeld => ?_)
            have HS30 := hid (hHeld (by kernel_rfl))
            clear hHeld hK K
            refine wpTill_ready (rs := [6]) (by kernel_rfl) (by decide) ?_
            refine AllTill.consH (o := ?oi31) ?ho31 (fun K hK => ?step31) ?more31
            case ho31 => rfl
            case step31 =>
              have r6 := rowN5 (HG4.out.pp p6 rfl).2
              have r7 := rowN5 (HG4.out.qq p7 rfl).2
              obtain ⟨r60, r61, r62, r63, r64, s60, s61, s62, s63, s64⟩ := r6
              obtain ⟨r70, r71, r72, r73, r74, s70, s71, s72, s73, s74⟩ := r7
              have hne := HG4.out.dd p6 p7 rfl rfl
              have hne2 := Ne.symm hne
              go_simp
              refine hK.out _ _ (fun hk => by cases (show true = false from hk)) (fun _ => ?_)
              clear hK K
              refine wpTill_ready (rs := [7]) (by kernel_rfl) (by decide) ?_
              refine AllTill.consH (o := ?oi32) ?ho32 (fun K hK => ?step32) ?more32
              case ho32 => rfl
              case step32 =>
                go_simp
                refine hK.out _ _ (fun hk => by cases (show true = false from hk)) (fun _ => ?_)
                clear hK K
                refine wpTill_done (by kernel_rfl) ?_ _
                clear r60 r61 r62 r63 r64 r70 r71 r72 r73 r74 s60 s61 s62 s63 s64 s70 s71 s72 s73 s74 hne hne2
                obtain ⟨g1, g2, g3, g4, g5⟩ := lw_made (cm := [.string x.id, .string x.nm, .slice ma x.vs.length mb, .slice mc x.es.length md, .slice me x.fs.length mg]) (cn := [.string y.id, .string y.nm, .slice na y.vs.length nb, .slice nc y.es.length nd, .slice ne y.fs.length ng]) (ci := [.string x.id, .string x.nm, .slice ia x.vs.length ib, .slice ic x.es.length id, .slice ie x.fs.length ig]) (Q := Q) HB4.out.b HHE.out HG4.out HB4.out.x HB4.out.y HQ4.out (HX.out.below HB4.out.b) (HY.out.below HB4.out.b) HI4.out.in rfl rfl
                go_wp2_with fail
                go_meet
                exact ⟨p6, p7, aa, ab, ac, ad, ae, ag, ba, bb, bc, bd, be, bg, rfl, rfl, hid ⟨g1, g2, g3, (HI4.out.below g5).low (by have := HQB.out; omega), g5.size⟩, hid g4⟩
              case more32 =>
                exact AllTill.nil
            case more31 =>
              exact AllTill.nil
          case more30 =>
            exact AllTill.nil
        case more29 =>
          refine AllTill.consH (o := ?oi33) ?ho33 (fun K hK => ?step33) ?more33
          case ho33 => rfl
          case step33 =>
            go_simp
            obtain ⟨p7, hP⟩ : ∃ P, y2.heap.size = P := ⟨_, rfl⟩
            obtain ⟨y3, hy⟩ : ∃ u, y2.alloc (.cells #[.string ⟨#[]⟩, .string ⟨#[]⟩, .slice none 0 0, .slice none 0 0, .slice none 0 0] 30) = u := ⟨_, rfl⟩
            have HG3 := hid (HG2.out.newQ hP hy)
            have HK3 := hid ((HG3.out.bb.block Q HQB.out.2.2.1).trans HQ4.out)
            rw [hP, hy]
            clear hP hy
            refine hK.out _ _ (fun _ => HK3.out) (fun hHeld => ?_)
            have HS33 := hid (hHeld (by kernel_rfl))
            clear hHeld hK K
            refine wpTill_ready (rs := [3]) (by kernel_rfl) (by decide) ?_
            refine AllTill.consH (o := ?oi34) ?ho34 (fun K hK => ?step34) ?more34
            case ho34 => rfl
            case step34 =>
              go_simp
              refine (HCT.out _ HG3.out.bb).mono ?_
              rintro e y4 ⟨cb, rfl, hown, hb⟩
              obtain ⟨ba, bb, bc, bd, be, bg, rfl⟩ := hown.in.eq
              have HG4 := hid (HG3.out.two hb hown)
              have HK4 := hid ((HG4.out.bb.block Q HQB.out.2.2.1).trans HQ4.out)
              clear hown hb
              try dsimp only
              refine hK.out _ _ (fun _ => HK4.out) (fun hHeld => ?_)
              have HS34 := hid (hHeld (by kernel_rfl))
              clear hHeld hK K
              refine wpTill_ready (rs := [6]) (by kernel_rfl) (by decide) ?_
              refine AllTill.consH (o := ?oi35) ?ho35 (fun K hK => ?step35) ?more35
              case ho35 => rfl
              case step35 =>
                have r6 := rowN5 (HG4.out.pp p6 rfl).2
                have r7 := rowN5 (HG4.out.qq p7 rfl).2
                obtain ⟨r60, r61, r62, r63, r64, s60, s61, s62, s63, s64⟩ := r6
                obtain ⟨r70, r71, r72, r73, r74, s70, s71, s72, s73, s74⟩ := r7
                have hne := HG4.out.dd p6 p7 rfl rfl
                have hne2 := Ne.symm hne
                go_simp
                refine hK.out _ _ (fun hk => by cases (show true = false from hk)) (fun _ => ?_)
                clear hK K
                refine wpTill_ready (rs := [7]) (by kernel_rfl) (by decide) ?_
                refine AllTill.consH (o := ?oi36) ?ho36 (fun K hK => ?step36) ?more36
                case ho36 => rfl
                case step36 =>
                 go_simp
                 refine hK.out _ _ (fun hk => by cases (show true = false from hk)) (fun _ => ?_)
                 clear hK K
                 refine wpTill_done (by kernel_rfl) ?_ _
                 clear r60 r61 r62 r63 r64 r70 r71 r72 r73 r74 s60 s61 s62 s63 s64 s70 s71 s72 s73 s74 hne hne2
                 obtain ⟨g1, g2, g3, g4, g5⟩ := lw_made (cm := [.string x.id, .string x.nm, .slice ma x.vs.length mb, .slice mc x.es.length md, .slice me x.fs.length mg]) (cn := [.string y.id, .string y.nm, .slice na y.vs.length nb, .slice nc y.es.length nd, .slice ne y.fs.length ng]) (ci := [.string x.id, .string x.nm, .slice ia x.vs.length ib, .slice ic x.es.length id, .slice ie x.fs.length ig]) (Q := Q) HB4.out.b HHE.out HG4.out HB4.out.x HB4.out.y HQ4.out (HX.out.below HB4.out.b) (HY.out.below HB4.out.b) HI4.out.in rfl rfl
                 go_wp2_with fail
                 go_meet
                 exact ⟨p6, p7, aa, ab, ac, ad, ae, ag, ba, bb, bc, bd, be, bg, rfl, rfl, hid ⟨g1, g2, g3, (HI4.out.below g5).low (by have := HQB.out; omega), g5.size⟩, hid g4⟩
                case more36 =>
                 exact AllTill.nil
              case more35 =>
                exact AllTill.nil
            case more34 =>
              exact AllTill.nil
          case more33 =>
            exact AllTill.nil
      case more28 =>
        refine AllTill.consH (o := ?oi37) ?ho37 (fun K hK => ?step37) ?more37
        case ho37 => rfl
        case step37 =>
          go_simp
          obtain ⟨p7, hP⟩ : ∃ P, y1.heap.size = P := ⟨_, rfl⟩
          obtain ⟨y2, hy⟩ : ∃ u, y1.alloc (.cells #[.string ⟨#[]⟩, .string ⟨#[]⟩, .slice none 0 0, .slice none 0 0, .slice none 0 0] 30) = u := ⟨_, rfl⟩
          have HG2 := hid (HG1.out.newQ hP hy)
          have HK2 := hid ((HG2.out.bb.block Q HQB.out.2.2.1).trans HQ4.out)
          rw [hP, hy]
          clear hP hy
          refine hK.out _ _ (fun _ => HK2.out) (fun hHeld => ?_)
          have HS37 := hid (hHeld (by kernel_rfl))
          clear hHeld hK K
          refine wpTill_ready (rs := [3, 4]) (by kernel_rfl) (by decide) ?_
          refine AllTill.consH (o := ?oi38) ?ho38 (fun K hK => ?step38) ?more38
          case ho38 => rfl
          case step38 =>
            go_simp
            refine (HCT.out _ HG2.out.bb).mono ?_
            rintro e y3 ⟨cb, rfl, hown, hb⟩
            obtain ⟨ba, bb, bc, bd, be, bg, rfl⟩ := hown.in.eq
            have HG3 := hid (HG2.out.two hb hown)
            have HK3 := hid ((HG3.out.bb.block Q HQB.out.2.2.1).trans HQ4.out)
            clear hown hb
            try dsimp only
            refine hK.out _ _ (fun _ => HK3.out) (fun hHeld => ?_)
            have HS38 := hid (hHeld (by kernel_rfl))
            clear hHeld hK K
            refine wpTill_ready (rs := [4]) (by kernel_rfl) (by decide) ?_
            refine AllTill.consH (o := ?oi39) ?ho39 (fun K hK => ?step39) ?more39
            case ho39 => rfl
            case step39 =>
              go_simp
              obtain ⟨p6, hP⟩ : ∃ P, y3.heap.size = P := ⟨_, rfl⟩
              obtain ⟨y4, hy⟩ : ∃ u, y3.alloc (.cells #[.string ⟨#[]⟩, .string ⟨#[]⟩, .slice none 0 0, .slice none 0 0, .slice none 0 0] 30) = u := ⟨_, rfl⟩
              have HG4 := hid (HG3.out.newP hP hy)
              have HK4 := hid ((HG4.out.bb.block Q HQB.out.2.2.1).trans HQ4.out)
              rw [hP, hy]
              clear hP hy
              refine hK.out _ _ (fun _ => HK4.out) (fun hHeld => ?_)
              have HS39 := hid (hHeld (by kernel_rfl))
              clear hHeld hK K
              refine wpTill_ready (rs := [6]) (by kernel_rfl) (by decide) ?_
              refine AllTill.consH (o := ?oi40) ?ho40 (fun K hK => ?step40) ?more40
              case ho40 => rfl
              case step40 =>
                have r6 := rowN5 (HG4.out.pp p6 rfl).2
                have r7 := rowN5 (HG4.out.qq p7 rfl).2
                obtain ⟨r60, r61, r62, r63, r64, s60, s61, s62, s63, s64⟩ := r6
                obtain ⟨r70, r71, r72, r73, r74, s70, s71, s72, s73, s74⟩ := r7
                have hne := HG4.out.dd p6 p7 rfl rfl
                have hne2 := Ne.symm hne
                go_simp
                refine hK.out _ _ (fun hk => by cases (show true = false from hk)) (fun _ => ?_)
                clear hK K
                refine wpTill_ready (rs := [7]) (by kernel_rfl) (by decide) ?_
                refine AllTill.consH (o := ?oi41) ?ho41 (fun K hK => ?step41) ?more41
                case ho41 => rfl
                case step41 =>
                 go_simp
                 refine hK.out _ _ (fun hk => by cases (show true = false from hk)) (fun _ => ?_)
                 clear hK K
                 refine wpTill_done (by kernel_rfl) ?_ _
                 clear r60 r61 r62 r63 r64 r70 r71 r72 r73 r74 s60 s61 s62 s63 s64 s70 s71 s72 s73 s74 hne hne2
                 obtain ⟨g1, g2, g3, g4, g5⟩ := lw_made (cm := [.string x.id, .string x.nm, .slice ma x.vs.length mb, .slice mc x.es.length md, .slice me x.fs.length mg]) (cn := [.string y.id, .string y.nm, .slice na y.vs.length nb, .slice nc y.es.length nd, .slice ne y.fs.length ng]) (ci := [.string x.id, .string x.nm, .slice ia x.vs.length ib, .slice ic x.es.length id, .slice ie x.fs.length ig]) (Q := Q) HB4.out.b HHE.out HG4.out HB4.out.x HB4.out.y HQ4.out (HX.out.below HB4.out.b) (HY.out.below HB4.out.b) HI4.out.in rfl rfl
                 go_wp2_with fail
                 go_meet
                 exact ⟨p6, p7, aa, ab, ac, ad, ae, ag, ba, bb, bc, bd, be, bg, rfl, rfl, hid ⟨g1, g2, g3, (HI4.out.below g5).low (by have := HQB.out; omega), g5.size⟩, hid g4⟩
                case more41 =>
                 exact AllTill.nil
              case more40 =>
                exact AllTill.nil
            case more39 =>
              exact AllTill.nil
          case more38 =>
            refine AllTill.consH (o := ?oi42) ?ho42 (fun K hK => ?step42) ?more42
            case ho42 => rfl
            case step42 =>
              go_simp
              obtain ⟨p6, hP⟩ : ∃ P, y2.heap.size = P := ⟨_, rfl⟩
              obtain ⟨y3, hy⟩ : ∃ u, y2.alloc (.cells #[.string ⟨#[]⟩, .string ⟨#[]⟩, .slice none 0 0, .slice none 0 0, .slice none 0 0] 30) = u := ⟨_, rfl⟩
              have HG3 := hid (HG2.out.newP hP hy)
              have HK3 := hid ((HG3.out.bb.block Q HQB.out.2.2.1).trans HQ4.out)
              rw [hP, hy]
              clear hP hy
              refine hK.out _ _ (fun _ => HK3.out) (fun hHeld => ?_)
              have HS42 := hid (hHeld (by kernel_rfl))
              clear hHeld hK K
              refine wpTill_ready (rs := [3]) (by kernel_rfl) (by decide) ?_
              refine AllTill.consH (o := ?oi43) ?ho43 (fun K hK => ?step43) ?more43
              case ho43 => rfl
              case step43 =>
                go_simp
                refine (HCT.out _ HG3.out.bb).mono ?_
                rintro e y4 ⟨cb, rfl, hown, hb⟩
                obtain ⟨ba, bb, bc, bd, be, bg, rfl⟩ := hown.in.eq
                have HG4 := hid (HG3.out.two hb hown)
                have HK4 := hid ((HG4.out.bb.block Q HQB.out.2.2.1).trans HQ4.out)
                clear hown hb
                try dsimp only
                refine hK.out _ _ (fun _ => HK4.out) (fun hHeld => ?_)
                have HS43 := hid (hHeld (by kernel_rfl))
                clear hHeld hK K
                refine wpTill_ready (rs := [6]) (by kernel_rfl) (by decide) ?_
                refine AllTill.consH (o := ?oi44) ?ho44 (fun K hK => ?step44) ?more44
                case ho44 => rfl
                case step44 =>
                 have r6 := rowN5 (HG4.out.pp p6 rfl).2
                 have r7 := rowN5 (HG4.out.qq p7 rfl).2
                 obtain ⟨r60, r61, r62, r63, r64, s60, s61, s62, s63, s64⟩ := r6
                 obtain ⟨r70, r71, r72, r73, r74, s70, s71, s72, s73, s74⟩ := r7
                 have hne := HG4.out.dd p6 p7 rfl rfl
                 have hne2 := Ne.symm hne
                 go_simp
                 refine hK.out _ _ (fun hk => by cases (show true = false from hk)) (fun _ => ?_)
                 clear hK K
                 refine wpTill_ready (rs := [7]) (by kernel_rfl) (by decide) ?_
                 refine AllTill.consH (o := ?oi45) ?ho45 (fun K hK => ?step45) ?more45
                 case ho45 => rfl
                 case step45 =>
                  go_simp
                  refine hK.out _ _ (fun hk => by cases (show true = false from hk)) (fun _ => ?_)
                  clear hK K
                  refine wpTill_done (by kernel_rfl) ?_ _
                  clear r60 r61 r62 r63 r64 r70 r71 r72 r73 r74 s60 s61 s62 s63 s64 s70 s71 s72 s73 s74 hne hne2
                  obtain ⟨g1, g2, g3, g4, g5⟩ := lw_made (cm := [.string x.id, .string x.nm, .slice ma x.vs.length mb, .slice mc x.es.length md, .slice me x.fs.length mg]) (cn := [.string y.id, .string y.nm, .slice na y.vs.length nb, .slice nc y.es.length nd, .slice ne y.fs.length ng]) (ci := [.string x.id, .string x.nm, .slice ia x.vs.length ib, .slice ic x.es.length id, .slice ie x.fs.length ig]) (Q := Q) HB4.out.b HHE.out HG4.out HB4.out.x HB4.out.y HQ4.out (HX.out.below HB4.out.b) (HY.out.below HB4.out.b) HI4.out.in rfl rfl
                  go_wp2_with fail
                  go_meet
                  exact ⟨p6, p7, aa, ab, ac, ad, ae, ag, ba, bb, bc, bd, be, bg, rfl, rfl, hid ⟨g1, g2, g3, (HI4.out.below g5).low (by have := HQB.out; omega), g5.size⟩, hid g4⟩
                 case more45 =>
                  exact AllTill.nil
                case more44 =>
                 exact AllTill.nil
              case more43 =>
                exact AllTill.nil
            case more42 =>
              exact AllTill.nil
        case more37 =>
          exact AllTill.nil
   case more18 =>
     refine AllTill.consH (o := ?oi46) ?ho46 (fun K hK => ?step46) ?more46
     case ho46 => rfl
     case step46 =>
      go_simp
      obtain ⟨p6, hP⟩ : ∃ P, y0.heap.size = P := ⟨_, rfl⟩
      obtain ⟨y1, hy⟩ : ∃ u, y0.alloc (.cells #[.string ⟨#[]⟩, .string ⟨#[]⟩, .slice none 0 0, .slice none 0 0, .slice none 0 0] 30) = u := ⟨_, rfl⟩
      have HG1 := hid (HG0.out.newP hP hy)
      have HK1 := hid ((HG1.out.bb.block Q HQB.out.2.2.1).trans HQ4.out)
      rw [hP, hy]
      clear hP hy
      refine hK.out _ _ (fun _ => HK1.out) (fun hHeld => ?_)
      have HS46 := hid (hHeld (by kernel_rfl))
      clear hHeld hK K
      refine wpTill_ready (rs := [1, 5]) (by kernel_rfl) (by decide) ?_
      refine AllTill.consH (o := ?oi47) ?ho47 (fun K hK => ?step47) ?more47
      case ho47 => rfl
      case step47 =>
        go_simp
        refine (HCT.out _ HG1.out.bb).mono ?_
        rintro e y2 ⟨ca, rfl, hown, hb⟩
        obtain ⟨aa, ab, ac, ad, ae, ag, rfl⟩ := hown.in.eq
        have HG2 := hid (HG1.out.one hb hown)
        have HK2 := hid ((HG2.out.bb.block Q HQB.out.2.2.1).trans HQ4.out)
        clear hown hb
        try dsimp only
        refine hK.out _ _ (fun _ => HK2.out) (fun hHeld => ?_)
        have HS47 := hid (hHeld (by kernel_rfl))
        clear hHeld hK K
        refine wpTill_ready (rs := [3, 5]) (by kernel_rfl) (by decide) ?_
        refine AllTill.consH (o := ?oi48) ?ho48 (fun K hK => ?step48) ?more48
        case ho48 => rfl
        case step48 =>
          go_simp
          refine (HCT.out _ HG2.out.bb).mono ?_
          rintro e y3 ⟨cb, rfl, hown, hb⟩
          obtain ⟨ba, bb, bc, bd, be, bg, rfl⟩ := hown.in.eq
          have HG3 := hid (HG2.out.two hb hown)
          have HK3 := hid ((HG3.out.bb.block Q HQB.out.2.2.1).trans HQ4.out)
          clear hown hb
          try dsimp only
          refine hK.out _ _ (fun _ => HK3.out) (fun hHeld => ?_)
          have HS48 := hid (hHeld (by kernel_rfl))
          clear hHeld hK K
          refine wpTill_ready (rs := [5]) (by kernel_rfl) (by decide) ?_
          refine AllTill.consH (o := ?oi49) ?ho49 (fun K hK => ?step49) ?more49
          case ho49 => rfl
          case step49 =>
            go_simp
            obtain ⟨p7, hP⟩ : ∃ P, y3.heap.size = P := ⟨_, rfl⟩
            obtain ⟨y4, hy⟩ : ∃ u, y3.alloc (.cells #[.string ⟨#[]⟩, .string ⟨#[]⟩, .slice none 0 0, .slice none 0 0, .slice none 0 0] 30) = u := ⟨_, rfl⟩
            have HG4 := hid (HG3.out.newQ hP hy)
            have HK4 := hid ((HG4.out.bb.block Q HQB.out.2.2.1).trans HQ4.out)
            rw [hP, hy]
            clear hP hy
            refine hK.out _ _ (fun _ => HK4.out) (fun hHeld => ?_)
            have HS49 := hid (hHeld (by kernel_rfl))
            clear hHeld hK K
            refine wpTill_ready (rs := [6]) (by kernel_rfl) (by decide) ?_
            refine AllTill.consH (o := ?oi50) ?ho50 (fun K hK => ?step50) ?more50
            case ho50 => rfl
            case step50 =>
              have r6 := rowN5 (HG4.out.pp p6 rfl).2
              have r7 := rowN5 (HG4.out.qq p7 rfl).2
              obtain ⟨r60, r61, r62, r63, r64, s60, s61, s62, s63, s64⟩ := r6
              obtain ⟨r70, r71, r72, r73, r74, s70, s71, s72, s73, s74⟩ := r7
              have hne := HG4.out.dd p6 p7 rfl rfl
              have hne2 := Ne.symm hne
              go_simp
              refine hK.out _ _ (fun hk => by cases (show true = false from hk)) (fun _ => ?_)
              clear hK K
              refine wpTill_ready (rs := [7]) (by kernel_rfl) (by decide) ?_
              refine AllTill.consH (o := ?oi51) ?ho51 (fun K hK => ?step51) ?more51
              case ho51 => rfl
              case step51 =>
                go_simp
                refine hK.out _ _ (fun hk => by cases (show true = false from hk)) (fun _ => ?_)
                clear hK K
                refine wpTill_done (by kernel_rfl) ?_ _
                clear r60 r61 r62 r63 r64 r70 r71 r72 r73 r74 s60 s61 s62 s63 s64 s70 s71 s72 s73 s74 hne hne2
                obtain ⟨g1, g2, g3, g4, g5⟩ := lw_made (cm := [.string x.id, .string x.nm, .slice ma x.vs.length mb, .slice mc x.es.length md, .slice me x.fs.length mg]) (cn := [.string y.id, .string y.nm, .slice na y.vs.length nb, .slice nc y.es.length nd, .slice ne y.fs.length ng]) (ci := [.string x.id, .string x.nm, .slice ia x.vs.length ib, .slice ic x.es.length id, .slice ie x.fs.length ig]) (Q := Q) HB4.out.b HHE.out HG4.out HB4.out.x HB4.out.y HQ4.out (HX.out.below HB4.out.b) (HY.out.below HB4.out.b) HI4.out.in rfl rfl
                go_wp2_with fail
                go_meet
                exact ⟨p6, p7, aa, ab, ac, ad, ae, ag, ba, bb, bc, bd, be, bg, rfl, rfl, hid ⟨g1, g2, g3, (HI4.out.below g5).low (by have := HQB.out; omega), g5.size⟩, hid g4⟩
              case more51 =>
                exact AllTill.nil
            case more50 =>
              exact AllTill.nil
          case more49 =>
            exact AllTill.nil
        case more48 =>
          refine AllTill.consH (o := ?oi52) ?ho52 (fun K hK => ?step52) ?more52
          case ho52 => rfl
          case step52 =>
            go_simp
            obtain ⟨p7, hP⟩ : ∃ P, y2.heap.size = P := ⟨_, rfl⟩
            obtain ⟨y3, hy⟩ : ∃ u, y2.alloc (.cells #[.string ⟨#[]⟩, .string ⟨#[]⟩, .slice none 0 0, .slice none 0 0, .slice none 0 0] 30) = u := ⟨_, rfl⟩
            have HG3 := hid (HG2.out.newQ hP hy)
            have HK3 := hid ((HG3.out.bb.block Q HQB.out.2.2.1).trans HQ4.out)
            rw [hP, hy]
            clear hP hy
            refine hK.out _ _ (fun _ => HK3.out) (fun hHeld => ?_)
            have HS52 := hid (hHeld (by kernel_rfl))
            clear hHeld hK K
            refine wpTill_ready (rs := [3]) (by kernel_rfl) (by decide) ?_
            refine AllTill.consH (o := ?oi53) ?ho53 (fun K hK => ?step53) ?more53
            case ho53 => rfl
            case step53 =>
              go_simp
              refine (HCT.out _ HG3.out.bb).mono ?_
              rintro e y4 ⟨cb, rfl, hown, hb⟩
              obtain ⟨ba, bb, bc, bd, be, bg, rfl⟩ := hown.in.eq
              have HG4 := hid (HG3.out.two hb hown)
              have HK4 := hid ((HG4.out.bb.block Q HQB.out.2.2.1).trans HQ4.out)
              clear hown hb
              try dsimp only
              refine hK.out _ _ (fun _ => HK4.out) (fun hHeld => ?_)
              have HS53 := hid (hHeld (by kernel_rfl))
              clear hHeld hK K
              refine wpTill_ready (rs := [6]) (by kernel_rfl) (by decide) ?_
              refine AllTill.consH (o := ?oi54) ?ho54 (fun K hK => ?step54) ?more54
              case ho54 => rfl
              case step54 =>
                have r6 := rowN5 (HG4.out.pp p6 rfl).2
                have r7 := rowN5 (HG4.out.qq p7 rfl).2
                obtain ⟨r60, r61, r62, r63, r64, s60, s61, s62, s63, s64⟩ := r6
                obtain ⟨r70, r71, r72, r73, r74, s70, s71, s72, s73, s74⟩ := r7
                have hne := HG4.out.dd p6 p7 rfl rfl
                have hne2 := Ne.symm hne
                go_simp
                refine hK.out _ _ (fun hk => by cases (show true = false from hk)) (fun _ => ?_)
                clear hK K
                refine wpTill_ready (rs := [7]) (by kernel_rfl) (by decide) ?_
                refine AllTill.consH (o := ?oi55) ?ho55 (fun K hK => ?step55) ?more55
                case ho55 => rfl
                case step55 =>
                 go_simp
                 refine hK.out _ _ (fun hk => by cases (show true = false from hk)) (fun _ => ?_)
                 clear hK K
                 refine wpTill_done (by kernel_rfl) ?_ _
                 clear r60 r61 r62 r63 r64 r70 r71 r72 r73 r74 s60 s61 s62 s63 s64 s70 s71 s72 s73 s74 hne hne2
                 obtain ⟨g1, g2, g3, g4, g5⟩ := lw_made (cm := [.string x.id, .string x.nm, .slice ma x.vs.length mb, .slice mc x.es.length md, .slice me x.fs.length mg]) (cn := [.string y.id, .string y.nm, .slice na y.vs.length nb, .slice nc y.es.length nd, .slice ne y.fs.length ng]) (ci := [.string x.id, .string x.nm, .slice ia x.vs.length ib, .slice ic x.es.length id, .slice ie x.fs.length ig]) (Q := Q) HB4.out.b HHE.out HG4.out HB4.out.x HB4.out.y HQ4.out (HX.out.below HB4.out.b) (HY.out.below HB4.out.b) HI4.out.in rfl rfl
                 go_wp2_with fail
                 go_meet
                 exact ⟨p6, p7, aa, ab, ac, ad, ae, ag, ba, bb, bc, bd, be, bg, rfl, rfl, hid ⟨g1, g2, g3, (HI4.out.below g5).low (by have := HQB.out; omega), g5.size⟩, hid g4⟩
                case more55 =>
                 exact AllTill.nil
              case more54 =>
                exact AllTill.nil
            case more53 =>
              exact AllTill.nil
          case more52 =>
            exact AllTill.nil
      case more47 =>
        refine AllTill.consH (o := ?oi56) ?ho56 (fun K hK => ?step56) ?more56
        case ho56 => rfl
        case step56 =>
          go_simp
          obtain ⟨p7, hP⟩ : ∃ P, y1.heap.size = P := ⟨_, rfl⟩
          obtain ⟨y2, hy⟩ : ∃ u, y1.alloc (.cells #[.string ⟨#[]⟩, .string ⟨#[]⟩, .slice none 0 0, .slice none 0 0, .slice none 0 0] 30) = u := ⟨_, rfl⟩
          have HG2 := hid (HG1.out.newQ hP hy)
          have HK2 := hid ((HG2.out.bb.block Q HQB.out.2.2.1).trans HQ4.out)
          rw [hP, hy]
          clear hP hy
          refine hK.out _ _ (fun _ => HK2.out) (fun hHeld => ?_)
          have HS56 := hid (hHeld (by kernel_rfl))
          clear hHeld hK K
          refine wpTill_ready (rs := [1]) (by kernel_rfl) (by decide) ?_
          refine AllTill.consH (o := ?oi57) ?ho57 (fun K hK => ?step57) ?more57
          case ho57 => rfl
          case step57 =>
            go_simp
            refine (HCT.out _ HG2.out.bb).mono ?_
            rintro e y3 ⟨ca, rfl, hown, hb⟩
            obtain ⟨aa, ab, ac, ad, ae, ag, rfl⟩ := hown.in.eq
            have HG3 := hid (HG2.out.one hb hown)
            have HK3 := hid ((HG3.out.bb.block Q HQB.out.2.2.1).trans HQ4.out)
            clear hown hb
            try dsimp only
            refine hK.out _ _ (fun _ => HK3.out) (fun hHeld => ?_)
            have HS57 := hid (hHeld (by kernel_rfl))
            clear hHeld hK K
            refine wpTill_ready (rs := [3]) (by kernel_rfl) (by decide) ?_
            refine AllTill.consH (o := ?oi58) ?ho58 (fun K hK => ?step58) ?more58
            case ho58 => rfl
            case step58 =>
              go_simp
              refine (HCT.out _ HG3.out.bb).mono ?_
              rintro e y4 ⟨cb, rfl, hown, hb⟩
              obtain ⟨ba, bb, bc, bd, be, bg, rfl⟩ := hown.in.eq
              have HG4 := hid (HG3.out.two hb hown)
              have HK4 := hid ((HG4.out.bb.block Q HQB.out.2.2.1).trans HQ4.out)
              clear hown hb
              try dsimp only
              refine hK.out _ _ (fun _ => HK4.out) (fun hHeld => ?_)
              have HS58 := hid (hHeld (by kernel_rfl))
              clear hHeld hK K
              refine wpTill_ready (rs := [6]) (by kernel_rfl) (by decide) ?_
              refine AllTill.consH (o := ?oi59) ?ho59 (fun K hK => ?step59) ?more59
              case ho59 => rfl
              case step59 =>
                have r6 := rowN5 (HG4.out.pp p6 rfl).2
                have r7 := rowN5 (HG4.out.qq p7 rfl).2
                obtain ⟨r60, r61, r62, r63, r64, s60, s61, s62, s63, s64⟩ := r6
                obtain ⟨r70, r71, r72, r73, r74, s70, s71, s72, s73, s74⟩ := r7
                have hne := HG4.out.dd p6 p7 rfl rfl
                have hne2 := Ne.symm hne
                go_simp
                refine hK.out _ _ (fun hk => by cases (show true = false from hk)) (fun _ => ?_)
                clear hK K
                refine wpTill_ready (rs := [7]) (by kernel_rfl) (by decide) ?_
                refine AllTill.consH (o := ?oi60) ?ho60 (fun K hK => ?step60) ?more60
                case ho60 => rfl
                case step60 =>
                 go_simp
                 refine hK.out _ _ (fun hk => by cases (show true = false from hk)) (fun _ => ?_)
                 clear hK K
                 refine wpTill_done (by kernel_rfl) ?_ _
                 clear r60 r61 r62 r63 r64 r70 r71 r72 r73 r74 s60 s61 s62 s63 s64 s70 s71 s72 s73 s74 hne hne2
                 obtain ⟨g1, g2, g3, g4, g5⟩ := lw_made (cm := [.string x.id, .string x.nm, .slice ma x.vs.length mb, .slice mc x.es.length md, .slice me x.fs.length mg]) (cn := [.string y.id, .string y.nm, .slice na y.vs.length nb, .slice nc y.es.length nd, .slice ne y.fs.length ng]) (ci := [.string x.id, .string x.nm, .slice ia x.vs.length ib, .slice ic x.es.length id, .slice ie x.fs.length ig]) (Q := Q) HB4.out.b HHE.out HG4.out HB4.out.x HB4.out.y HQ4.out (HX.out.below HB4.out.b) (HY.out.below HB4.out.b) HI4.out.in rfl rfl
                 go_wp2_with fail
                 go_meet
                 exact ⟨p6, p7, aa, ab, ac, ad, ae, ag, ba, bb, bc, bd, be, bg, rfl, rfl, hid ⟨g1, g2, g3, (HI4.out.below g5).low (by have := HQB.out; omega), g5.size⟩, hid g4⟩
                case more60 =>
                 exact AllTill.nil
              case more59 =>
                exact AllTill.nil
            case more58 =>
              exact AllTill.nil
          case more57 =>
            exact AllTill.nil
        case more56 =>
          exact AllTill.nil
     case more46 =>
      refine AllTill.consH (o := ?oi61) ?ho61 (fun K hK => ?step61) ?more61
      case ho61 => rfl
      case step61 =>
        go_simp
        obtain ⟨p7, hP⟩ : ∃ P, y0.heap.size = P := ⟨_, rfl⟩
        obtain ⟨y1, hy⟩ : ∃ u, y0.alloc (.cells #[.string ⟨#[]⟩, .string ⟨#[]⟩, .slice none 0 0, .slice none 0 0, .slice none 0 0] 30) = u := ⟨_, rfl⟩
        have HG1 := hid (HG0.out.newQ hP hy)
        have HK1 := hid ((HG1.out.bb.block Q HQB.out.2.2.1).trans HQ4.out)
        rw [hP, hy]
        clear hP hy
        refine hK.out _ _ (fun _ => HK1.out) (fun hHeld => ?_)
        have HS61 := hid (hHeld (by kernel_rfl))
        clear hHeld hK K
        refine wpTill_ready (rs := [1, 4]) (by kernel_rfl) (by decide) ?_
        refine AllTill.consH (o := ?oi62) ?ho62 (fun K hK => ?step62) ?more62
        case ho62 => rfl
        case step62 =>
          go_simp
          refine (HCT.out _ HG1.out.bb).mono ?_
          rintro e y2 ⟨ca, rfl, hown, hb⟩
          obtain ⟨aa, ab, ac, ad, ae, ag, rfl⟩ := hown.in.eq
          have HG2 := hid (HG1.out.one hb hown)
          have HK2 := hid ((HG2.out.bb.block Q HQB.out.2.2.1).trans HQ4.out)
          clear hown hb
          try dsimp only
          refine hK.out _ _ (fun _ => HK2.out) (fun hHeld => ?_)
          have HS62 := hid (hHeld (by kernel_rfl))
          clear hHeld hK K
          refine wpTill_ready (rs := [3, 4]) (by kernel_rfl) (by decide) ?_
          refine AllTill.consH (o := ?oi63) ?ho63 (fun K hK => ?step63) ?more63
          case ho63 => rfl
          case step63 =>
            go_simp
            refine (HCT.out _ HG2.out.bb).mono ?_
            rintro e y3 ⟨cb, rfl, hown, hb⟩
            obtain ⟨ba, bb, bc, bd, be, bg, rfl⟩ := hown.in.eq
            have HG3 := hid (HG2.out.two hb hown)
            have HK3 := hid ((HG3.out.bb.block Q HQB.out.2.2.1).trans HQ4.out)
            clear hown hb
            try dsimp only
            refine hK.out _ _ (fun _ => HK3.out) (fun hHeld => ?_)
            have HS63 := hid (hHeld (by kernel_rfl))
            clear hHeld hK K
            refine wpTill_ready (rs := [4]) (by kernel_rfl) (by decide) ?_
            refine AllTill.consH (o := ?oi64) ?ho64 (fun K hK => ?step64) ?more64
            case ho64 => rfl
            case step64 =>
              go_simp
              obtain ⟨p6, hP⟩ : ∃ P, y3.heap.size = P := ⟨_, rfl⟩
              obtain ⟨y4, hy⟩ : ∃ u, y3.alloc (.cells #[.string ⟨#[]⟩, .string ⟨#[]⟩, .slice none 0 0, .slice none 0 0, .slice none 0 0] 30) = u := ⟨_, rfl⟩
              have HG4 := hid (HG3.out.newP hP hy)
              have HK4 := hid ((HG4.out.bb.block Q HQB.out.2.2.1).trans HQ4.out)
              rw [hP, hy]
              clear hP hy
              refine hK.out _ _ (fun _ => HK4.out) (fun hHeld => ?_)
              have HS64 := hid (hHeld (by kernel_rfl))
              clear hHeld hK K
              refine wpTill_ready (rs := [6]) (by kernel_rfl) (by decide) ?_
              refine AllTill.consH (o := ?oi65) ?ho65 (fun K hK => ?step65) ?more65
              case ho65 => rfl
              case step65 =>
                have r6 := rowN5 (HG4.out.pp p6 rfl).2
                have r7 := rowN5 (HG4.out.qq p7 rfl).2
                obtain ⟨r60, r61, r62, r63, r64, s60, s61, s62, s63, s64⟩ := r6
                obtain ⟨r70, r71, r72, r73, r74, s70, s71, s72, s73, s74⟩ := r7
                have hne := HG4.out.dd p6 p7 rfl rfl
                have hne2 := Ne.symm hne
                go_simp
                refine hK.out _ _ (fun hk => by cases (show true = false from hk)) (fun _ => ?_)
                clear hK K
                refine wpTill_ready (rs := [7]) (by kernel_rfl) (by decide) ?_
                refine AllTill.consH (o := ?oi66) ?ho66 (fun K hK => ?step66) ?more66
                case ho66 => rfl
                case step66 =>
                 go_simp
                 refine hK.out _ _ (fun hk => by cases (show true = false from hk)) (fun _ => ?_)
                 clear hK K
                 refine wpTill_done (by kernel_rfl) ?_ _
                 clear r60 r61 r62 r63 r64 r70 r71 r72 r73 r74 s60 s61 s62 s63 s64 s70 s71 s72 s73 s74 hne hne2
                 obtain ⟨g1, g2, g3, g4, g5⟩ := lw_made (cm := [.string x.id, .string x.nm, .slice ma x.vs.length mb, .slice mc x.es.length md, .slice me x.fs.length mg]) (cn := [.string y.id, .string y.nm, .slice na y.vs.length nb, .slice nc y.es.length nd, .slice ne y.fs.length ng]) (ci := [.string x.id, .string x.nm, .slice ia x.vs.length ib, .slice ic x.es.length id, .slice ie x.fs.length ig]) (Q := Q) HB4.out.b HHE.out HG4.out HB4.out.x HB4.out.y HQ4.out (HX.out.below HB4.out.b) (HY.out.below HB4.out.b) HI4.out.in rfl rfl
                 go_wp2_with fail
                 go_meet
                 exact ⟨p6, p7, aa, ab, ac, ad, ae, ag, ba, bb, bc, bd, be, bg, rfl, rfl, hid ⟨g1, g2, g3, (HI4.out.below g5).low (by have := HQB.out; omega), g5.size⟩, hid g4⟩
                case more66 =>
                 exact AllTill.nil
              case more65 =>
                exact AllTill.nil
            case more64 =>
              exact AllTill.nil
          case more63 =>
            refine AllTill.consH (o := ?oi67) ?ho67 (fun K hK => ?step67) ?more67
            case ho67 => rfl
            case step67 =>
              go_simp
              obtain ⟨p6, hP⟩ : ∃ P, y2.heap.size = P := ⟨_, rfl⟩
              obtain ⟨y3, hy⟩ : ∃ u, y2.alloc (.cells #[.string ⟨#[]⟩, .string ⟨#[]⟩, .slice none 0 0, .slice none 0 0, .slice none 0 0] 30) = u := ⟨_, rfl⟩
              have HG3 := hid (HG2.out.newP hP hy)
              have HK3 := hid ((HG3.out.bb.block Q HQB.out.2.2.1).trans HQ4.out)
              rw [hP, hy]
              clear hP hy
              refine hK.out _ _ (fun _ => HK3.out) (fun hHeld => ?_)
              have HS67 := hid (hHeld (by kernel_rfl))
              clear hHeld hK K
              refine wpTill_ready (rs := [3]) (by kernel_rfl) (by decide) ?_
              refine AllTill.consH (o := ?oi68) ?ho68 (fun K hK => ?step68) ?more68
              case ho68 => rfl
              case step68 =>
                go_simp
                refine (HCT.out _ HG3.out.bb).mono ?_
                rintro e y4 ⟨cb, rfl, hown, hb⟩
                obtain ⟨ba, bb, bc, bd, be, bg, rfl⟩ := hown.in.eq
                have HG4 := hid (HG3.out.two hb hown)
                have HK4 := hid ((HG4.out.bb.block Q HQB.out.2.2.1).trans HQ4.out)
                clear hown hb
                try dsimp only
                refine hK.out _ _ (fun _ => HK4.out) (fun hHeld => ?_)
                have HS68 := hid (hHeld (by kernel_rfl))
                clear hHeld hK K
                refine wpTill_ready (rs := [6]) (by kernel_rfl) (by decide) ?_
                refine AllTill.consH (o := ?oi69) ?ho69 (fun K hK => ?step69) ?more69
                case ho69 => rfl
                case step69 =>
                 have r6 := rowN5 (HG4.out.pp p6 rfl).2
                 have r7 := rowN5 (HG4.out.qq p7 rfl).2
                 obtain ⟨r60, r61, r62, r63, r64, s60, s61, s62, s63, s64⟩ := r6
                 obtain ⟨r70, r71, r72, r73, r74, s70, s71, s72, s73, s74⟩ := r7
                 have hne := HG4.out.dd p6 p7 rfl rfl
                 have hne2 := Ne.symm hne
                 go_simp
                 refine hK.out _ _ (fun hk => by cases (show true = false from hk)) (fun _ => ?_)
                 clear hK K
                 refine wpTill_ready (rs := [7]) (by kernel_rfl) (by decide) ?_
                 refine AllTill.consH (o := ?oi70) ?ho70 (fun K hK => ?step70) ?more70
                 case ho70 => rfl
                 case step70 =>
                  go_simp
                  refine hK.out _ _ (fun hk => by cases (show true = false from hk)) (fun _ => ?_)
                  clear hK K
                  refine wpTill_done (by kernel_rfl) ?_ _
                  clear r60 r61 r62 r63 r64 r70 r71 r72 r73 r74 s60 s61 s62 s63 s64 s70 s71 s72 s73 s74 hne hne2
                  obtain ⟨g1, g2, g3, g4, g5⟩ := lw_made (cm := [.string x.id, .string x.nm, .slice ma x.vs.length mb, .slice mc x.es.length md, .slice me x.fs.length mg]) (cn := [.string y.id, .string y.nm, .slice na y.vs.length nb, .slice nc y.es.length nd, .slice ne y.fs.length ng]) (ci := [.string x.id, .string x.nm, .slice ia x.vs.length ib, .slice ic x.es.length id, .slice ie x.fs.length ig]) (Q := Q) HB4.out.b HHE.out HG4.out HB4.out.x HB4.out.y HQ4.out (HX.out.below HB4.out.b) (HY.out.below HB4.out.b) HI4.out.in rfl rfl
                  go_wp2_with fail
                  go_meet
                  exact ⟨p6, p7, aa, ab, ac, ad, ae, ag, ba, bb, bc, bd, be, bg, rfl, rfl, hid ⟨g1, g2, g3, (HI4.out.below g5).low (by have := HQB.out; omega), g5.size⟩, hid g4⟩
                 case more70 =>
                  exact AllTill.nil
                case more69 =>
                 exact AllTill.nil
              case more68 =>
                exact AllTill.nil
            case more67 =>
              exact AllTill.nil
        case more62 =>
          refine AllTill.consH (o := ?oi71) ?ho71 (fun K hK => ?step71) ?more71
          case ho71 => rfl
          case step71 =>
            go_simp
            obtain ⟨p6, hP⟩ : ∃ P, y1.heap.size = P := ⟨_, rfl⟩
            obtain ⟨y2, hy⟩ : ∃ u, y1.alloc (.cells #[.string ⟨#[]⟩, .string ⟨#[]⟩, .slice none 0 0, .slice none 0 0, .slice none 0 0] 30) = u := ⟨_, rfl⟩
            have HG2 := hid (HG1.out.newP hP hy)
            have HK2 := hid ((HG2.out.bb.block Q HQB.out.2.2.1).trans HQ4.out)
            rw [hP, hy]
            clear hP hy
            refine hK.out _ _ (fun _ => HK2.out) (fun hHeld => ?_)
            have HS71 := hid (hHeld (by kernel_rfl))
            clear hHeld hK K
            refine wpTill_ready (rs := [1]) (by kernel_rfl) (by decide) ?_
            refine AllTill.consH (o := ?oi72) ?ho72 (fun K hK => ?step72) ?more72
            case ho72 => rfl
            case step72 =>
              go_simp
              refine (HCT.out _ HG2.out.bb).mono ?_
              rintro e y3 ⟨ca, rfl, hown, hb⟩
              obtain ⟨aa, ab, ac, ad, ae, ag, rfl⟩ := hown.in.eq
              have HG3 := hid (HG2.out.one hb hown)
              have HK3 := hid ((HG3.out.bb.block Q HQB.out.2.2.1).trans HQ4.out)
              clear hown hb
              try dsimp only
              refine hK.out _ _ (fun _ => HK3.out) (fun hHeld => ?_)
              have HS72 := hid (hHeld (by kernel_rfl))
              clear hHeld hK K
              refine wpTill_ready (rs := [3]) (by kernel_rfl) (by decide) ?_
              refine AllTill.consH (o := ?oi73) ?ho73 (fun K hK => ?step73) ?more73
              case ho73 => rfl
              case step73 =>
                go_simp
                refine (HCT.out _ HG3.out.bb).mono ?_
                rintro e y4 ⟨cb, rfl, hown, hb⟩
                obtain ⟨ba, bb, bc, bd, be, bg, rfl⟩ := hown.in.eq
                have HG4 := hid (HG3.out.two hb hown)
                have HK4 := hid ((HG4.out.bb.block Q HQB.out.2.2.1).trans HQ4.out)
                clear hown hb
                try dsimp only
                refine hK.out _ _ (fun _ => HK4.out) (fun hHeld => ?_)
                have HS73 := hid (hHeld (by kernel_rfl))
                clear hHeld hK K
                refine wpTill_ready (rs := [6]) (by kernel_rfl) (by decide) ?_
                refine AllTill.consH (o := ?oi74) ?ho74 (fun K hK => ?step74) ?more74
                case ho74 => rfl
                case step74 =>
                 have r6 := rowN5 (HG4.out.pp p6 rfl).2
                 have r7 := rowN5 (HG4.out.qq p7 rfl).2
                 obtain ⟨r60, r61, r62, r63, r64, s60, s61, s62, s63, s64⟩ := r6
                 obtain ⟨r70, r71, r72, r73, r74, s70, s71, s72, s73, s74⟩ := r7
                 have hne := HG4.out.dd p6 p7 rfl rfl
                 have hne2 := Ne.symm hne
                 go_simp
                 refine hK.out _ _ (fun hk => by cases (show true = false from hk)) (fun _ => ?_)
                 clear hK K
                 refine wpTill_ready (rs := [7]) (by kernel_rfl) (by decide) ?_
                 refine AllTill.consH (o := ?oi75) ?ho75 (fun K hK => ?step75) ?more75
                 case ho75 => rfl
                 case step75 =>
                  go_simp
                  refine hK.out _ _ (fun hk => by cases (show true = false from hk)) (fun _ => ?_)
                  clear hK K
                  refine wpTill_done (by kernel_rfl) ?_ _
                  clear r60 r61 r62 r63 r64 r70 r71 r72 r73 r74 s60 s61 s62 s63 s64 s70 s71 s72 s73 s74 hne hne2
                  obtain ⟨g1, g2, g3, g4, g5⟩ := lw_made (cm := [.string x.id, .string x.nm, .slice ma x.vs.length mb, .slice mc x.es.length md, .slice me x.fs.length mg]) (cn := [.string y.id, .string y.nm, .slice na y.vs.length nb, .slice nc y.es.length nd, .slice ne y.fs.length ng]) (ci := [.string x.id, .string x.nm, .slice ia x.vs.length ib, .slice ic x.es.length id, .slice ie x.fs.length ig]) (Q := Q) HB4.out.b HHE.out HG4.out HB4.out.x HB4.out.y HQ4.out (HX.out.below HB4.out.b) (HY.out.below HB4.out.b) HI4.out.in rfl rfl
                  go_wp2_with fail
                  go_meet
                  exact ⟨p6, p7, aa, ab, ac, ad, ae, ag, ba, bb, bc, bd, be, bg, rfl, rfl, hid ⟨g1, g2, g3, (HI4.out.below g5).low (by have := HQB.out; omega), g5.size⟩, hid g4⟩
                 case more75 =>
                  exact AllTill.nil
                case more74 =>
                 exact AllTill.nil
              case more73 =>
                exact AllTill.nil
            case more72 =>
              exact AllTill.nil
          case more71 =>
            exact AllTill.nil
      case more61 =>
        exact AllTill.nil
 case rest =>
   obtain ⟨p, q, aa, ab, ac, ad, ae, ag, ba, bb, bc, bd, be, bg, rfl, rfl, HL, HN⟩ := hcut
   have HQB2 : Hid (H + 2 ≤ B ∧ Q < B) := by have h1 := HQB.out; have h2 := HBE.out; show _ ∧ _; omega
   have HR1 : Hid (∀ U, LX W H Q p q x y [.string x.id, .string x.nm, .slice ma x.vs.length mb, .slice mc x.es.length md, .slice me x.fs.length mg] [.string y.id, .string y.nm, .slice na y.vs.length nb, .slice nc y.es.length nd, .slice ne y.fs.length ng] [.string x.id, .string x.nm, .slice ia x.vs.length ib, .slice ic x.es.length id, .slice ie x.fs.length ig] [.string x.id, .string x.nm, .slice aa x.vs.length ab, .slice ac x.es.length ad, .slice ae x.fs.length ag] [.string x.id, .string x.nm, .slice ba x.vs.length bb, .slice bc x.es.length bd, .slice be x.fs.length bg] B U → Calls Tryz.prog 11 #[.agg #[.string x.id, .string x.nm, .slice aa x.vs.length ab, .slice ac x.es.length ad, .slice ae x.fs.length ag], .agg #[.string x.id, .string x.nm, .slice ma x.vs.length mb, .slice mc x.es.length md, .slice me x.fs.length mg]] U fun e U' => e = .returned (.bool true) ∧ Below U.heap.size U U') := fun U h => by
     have := rsame_any h.l.ia h.l.im (few_cut HX2.out) (few_cut HX2.out)
     rw [decide_eq_true rfl] at this
     exact this
   obtain ⟨qb, hqb⟩ : ∃ b, decide (x = y) = b := ⟨_, rfl⟩
   have HR2 : Hid (∀ U, LX W H Q p q x y [.string x.id, .string x.nm, .slice ma x.vs.length mb, .slice mc x.es.length md, .slice me x.fs.length mg] [.string y.id, .string y.nm, .slice na y.vs.length nb, .slice nc y.es.length nd, .slice ne y.fs.length ng] [.string x.id, .string x.nm, .slice ia x.vs.length ib, .slice ic x.es.length id, .slice ie x.fs.length ig] [.string x.id, .string x.nm, .slice aa x.vs.length ab, .slice ac x.es.length ad, .slice ae x.fs.length ag] [.string x.id, .string x.nm, .slice ba x.vs.length bb, .slice bc x.es.length bd, .slice be x.fs.length bg] B U → Calls Tryz.prog 12 #[.agg #[.string x.id, .string x.nm, .slice ia x.vs.length ib, .slice ic x.es.length id, .slice ie x.fs.length ig], .agg #[.string y.id, .string y.nm, .slice na y.vs.length nb, .slice nc y.es.length nd, .slice ne y.fs.length ng]] U fun e U' => e = .returned (.bool qb) ∧ Below U.heap.size U U') := fun U h => by
     have := msame_any h.l.ii h.l.ni (few_cut HX2.out) (few_cut HY2.out)
     rw [hqb] at this
     exact this
   have HR3 : Hid (∀ U, LX W H Q p q x y [.string x.id, .string x.nm, .slice ma x.vs.length mb, .slice mc x.es.length md, .slice me x.fs.length mg] [.string y.id, .string y.nm, .slice na y.vs.length nb, .slice nc y.es.length nd, .slice ne y.fs.length ng] [.string x.id, .string x.nm, .slice ia x.vs.length ib, .slice ic x.es.length id, .slice ie x.fs.length ig] [.string x.id, .string x.nm, .slice aa x.vs.length ab, .slice ac x.es.length ad, .slice ae x.fs.length ag] [.string x.id, .string x.nm, .slice ba x.vs.length bb, .slice bc x.es.length bd, .slice be x.fs.length bg] B U → Calls Tryz.prog 11 #[.agg #[.string x.id, .string x.nm, .slice ma x.vs.length mb, .slice mc x.es.length md, .slice me x.fs.length mg], .agg #[.string y.id, .string y.nm, .slice na y.vs.length nb, .slice nc y.es.length nd, .slice ne y.fs.length ng]] U fun e U' => e = .returned (.bool qb) ∧ Below U.heap.size U U') := fun U h => by
     have := rsame_any h.l.im h.l.ni (few_cut HX2.out) (few_cut HY2.out)
     rw [hqb] at this
     exact this
   have HR4 : Hid (∀ U, LX W H Q p q x y [.string x.id, .string x.nm, .slice ma x.vs.length mb, .slice mc x.es.length md, .slice me x.fs.length mg] [.string y.id, .string y.nm, .slice na y.vs.length nb, .slice nc y.es.length nd, .slice ne y.fs.length ng] [.string x.id, .string x.nm, .slice ia x.vs.length ib, .slice ic x.es.length id, .slice ie x.fs.length ig] [.string x.id, .string x.nm, .slice aa x.vs.length ab, .slice ac x.es.length ad, .slice ae x.fs.length ag] [.string x.id, .string x.nm, .slice ba x.vs.length bb, .slice bc x.es.length bd, .slice be x.fs.length bg] B U → Calls Tryz.prog 12 #[.agg #[.string x.id, .string x.nm, .slice ia x.vs.length ib, .slice ic x.es.length id, .slice ie x.fs.length ig], .agg #[.string x.id, .string x.nm, .slice aa x.vs.length ab, .slice ac x.es.length ad, .slice ae x.fs.length ag]] U fun e U' => e = .returned (.bool true) ∧ Below U.heap.size U U') := fun U h => by
     have := msame_any h.l.ii h.l.ia (few_cut HX2.out) (few_cut HX2.out)
     rw [decide_eq_true rfl] at this
     exact this
   clear hqb HB2 HB4 HQ4 HI4 HG0 HCT HY HCX HCY HBE
   rcases qb with _ | _
   · go_upto_region 5 with fail
     refine quiet_lit (C := (fun U => LX W H Q p q x y [.string x.id, .string x.nm, .slice ma x.vs.length mb, .slice mc x.es.length md, .slice me x.fs.length mg] [.string y.id, .string y.nm, .slice na y.vs.length nb, .slice nc y.es.length nd, .slice ne y.fs.length ng] [.string x.id, .string x.nm, .slice ia x.vs.length ib, .slice ic x.es.length id, .slice ie x.fs.length ig] [.string x.id, .string x.nm, .slice aa x.vs.length ab, .slice ac x.es.length ad, .slice ae x.fs.length ag] [.string x.id, .string x.nm, .slice ba x.vs.length bb, .slice bc x.es.length bd, .slice be x.fs.length bg] B U)) (by kernel_rfl) (by kernel_rfl) (HL.out.below (Below.refl _ _).drew) ?_
     repeat (first
      | go_big_quiet_skip
      | (go_big_quiet_want
         refine quiet_val (x := ?_) (fun vv hC => ?_) ?_
         rotate_left
         · skip
           obtain ⟨m0, m1, m2, m3, m4, -, -, -, -, -⟩ := rowN5 hC.l.m
           obtain ⟨n0, n1, n2, n3, n4, -, -, -, -, -⟩ := rowN5 hC.l.n
           obtain ⟨i0, i1, i2, i3, i4, -, -, -, -, -⟩ := rowN5 hC.l.i
           obtain ⟨a0, a1, a2, a3, a4, -, -, -, -, -⟩ := rowN5 hC.l.a
           clear hC
           go_simp
           with_reducible rfl
         go_big_quiet_on
         try simp only [Act.put, List.setIfInBounds_toArray, List.set_cons_zero, List.set_cons_succ])
      | (go_big_quiet_want
         refine quiet_call (f := ?_) (args := ?_) (x := ?_) (fun vv hC => ?_) (fun vv hC => ?_) ?_
         rotate_left 3
         · go_simp
           first | with_reducible rfl | (apply And.intro <;> with_reducible rfl)
         · first
             | (go_at_call 11; with_reducible refine (HR1.out vv hC).mono ?_; rintro e ww ⟨rfl, bb⟩; refine And.intro ?_ (hC.below bb); with_reducible rfl)
             | (go_at_call 11; with_reducible refine (HR3.out vv hC).mono ?_; rintro e ww ⟨rfl, bb⟩; refine And.intro ?_ (hC.below bb); with_reducible rfl)
             | (go_at_call 12; with_reducible refine (HR2.out vv hC).mono ?_; rintro e ww ⟨rfl, bb⟩; refine And.intro ?_ (hC.below bb); with_reducible rfl)
             | (go_at_call 12; with_reducible refine (HR4.out vv hC).mono ?_; rintro e ww ⟨rfl, bb⟩; refine And.intro ?_ (hC.below bb); with_reducible rfl)
         go_big_quiet_on
         try simp only [Act.put, List.setIfInBounds_toArray, List.set_cons_zero, List.set_cons_succ]))
     refine wpQuiet_nil ?_
     intro vq hq
     clear HR1 HR2 HR3 HR4 HL
     have HQ := hid hq
     clear hq
     obtain ⟨a0, a1, a2, a3, a4, -, -, -, -, -⟩ := rowN5 HQ.out.l.a
     have cS := spoil_own HQ.out.oa HQ.out.hz HX2.out
     go_wp2_with fail
     refine cS.mono ?_
     rintro e w8 ⟨⟨k, hk, rfl⟩, hz, hos, htp, hot, hkeep⟩
     obtain ⟨N, hN⟩ := HN.out
     obtain ⟨g1, g2, g3, g4, g5, g6, g7⟩ := HQ.out.l.spoilt HQ.out.oa HQ.out.ob HQ.out.oi HCI.out hN (by have := HQB2.out; omega) HX.out hos htp hot hz hkeep
     have HW8 := hid g1
     have HM8 := hid g2
     have HI8 := hid g3
     have HK8 := hid g4
     have HMM := hid g5
     have HII := hid g6
     have HBB := hid g7
     have t0 : decide (0 < k) = true := decide_eq_true hk
     clear hz hos htp hot hkeep hN g1 g2 g3 g4 g5 g6 g7 cS a0 a1 a2 a3 a4 hk HQ HN
     obtain ⟨b0, b1, b2, b3, b4, -, -, -, -, -⟩ := rowN5 HK8.out
     obtain ⟨m0, m1, m2, m3, m4, -, -, -, -, -⟩ := rowN5 HM8.out
     have c1 := rsame_any HBB.out HMM.out (few_cut HX2.out) (few_cut HX2.out)
     rw [decide_eq_true rfl] at c1
     go_wp2_with fail
     refine c1.mono ?_
     rintro e w9 ⟨rfl, hb⟩
     have HW9 := hid (HW8.out.trans (hb.mono HW8.out.size))
     have hm9 := (hb.block _ (Go.lt_of_block HM8.out)).trans HM8.out
     have hi9 := (hb.block _ (Go.lt_of_block HI8.out)).trans HI8.out
     have c2 := rsame_any (HII.out.below hb) (HMM.out.below hb) (few_cut HX2.out) (few_cut HX2.out)
     rw [decide_eq_true rfl] at c2
     clear hb c1 b0 b1 b2 b3 b4 m0 m1 m2 m3 m4 t0
     obtain ⟨m0, m1, m2, m3, m4, -, -, -, -, -⟩ := rowN5 hm9
     obtain ⟨i0, i1, i2, i3, i4, -, -, -, -, -⟩ := rowN5 hi9
     clear hm9 hi9
     go_wp2_with fail
     refine c2.mono ?_
     rintro e w10 ⟨rfl, hb⟩
     have HW10 := hid (HW9.out.trans (hb.mono HW9.out.size))
     clear hb c2 m0 m1 m2 m3 m4 i0 i1 i2 i3 i4
     have cA := awake_any w10 (HE.out.below HW10.out)
     go_wp2_with fail
     refine cA.mono ?_
     rintro e wz ⟨rfl, hz⟩
     have HZ := hid ((HW10.out).trans (hz.mono (HW10.out).size))
     clear hz cA
     go_wp2_with fail
     go_ret
     exact ⟨rfl, HZ.out⟩
   · go_upto_region 5 with fail
     refine quiet_lit (C := (fun U => LX W H Q p q x y [.string x.id, .string x.nm, .slice ma x.vs.length mb, .slice mc x.es.length md, .slice me x.fs.length mg] [.string y.id, .string y.nm, .slice na y.vs.length nb, .slice nc y.es.length nd, .slice ne y.fs.length ng] [.string x.id, .string x.nm, .slice ia x.vs.length ib, .slice ic x.es.length id, .slice ie x.fs.length ig] [.string x.id, .string x.nm, .slice aa x.vs.length ab, .slice ac x.es.length ad, .slice ae x.fs.length ag] [.string x.id, .string x.nm, .slice ba x.vs.length bb, .slice bc x.es.length bd, .slice be x.fs.length bg] B U)) (by kernel_rfl) (by kernel_rfl) (HL.out.below (Below.refl _ _).drew) ?_
     repeat (first
      | go_big_quiet_skip
      | (go_big_quiet_want
         refine quiet_val (x := ?_) (fun vv hC => ?_) ?_
         rotate_left
         · skip
           obtain ⟨m0, m1, m2, m3, m4, -, -, -, -, -⟩ := rowN5 hC.l.m
           obtain ⟨n0, n1, n2, n3, n4, -, -, -, -, -⟩ := rowN5 hC.l.n
           obtain ⟨i0, i1, i2, i3, i4, -, -, -, -, -⟩ := rowN5 hC.l.i
           obtain ⟨a0, a1, a2, a3, a4, -, -, -, -, -⟩ := rowN5 hC.l.a
           clear hC
           go_simp
           with_reducible rfl
         go_big_quiet_on
         try simp only [Act.put, List.setIfInBounds_toArray, List.set_cons_zero, List.set_cons_succ])
      | (go_big_quiet_want
         refine quiet_call (f := ?_) (args := ?_) (x := ?_) (fun vv hC => ?_) (fun vv hC => ?_) ?_
         rotate_left 3
         · go_simp
           first | with_reducible rfl | (apply And.intro <;> with_reducible rfl)
         · first
             | (go_at_call 11; with_reducible refine (HR1.out vv hC).mono ?_; rintro e ww ⟨rfl, bb⟩; refine And.intro ?_ (hC.below bb); with_reducible rfl)
             | (go_at_call 11; with_reducible refine (HR3.out vv hC).mono ?_; rintro e ww ⟨rfl, bb⟩; refine And.intro ?_ (hC.below bb); with_reducible rfl)
             | (go_at_call 12; with_reducible refine (HR2.out vv hC).mono ?_; rintro e ww ⟨rfl, bb⟩; refine And.intro ?_ (hC.below bb); with_reducible rfl)
             | (go_at_call 12; with_reducible refine (HR4.out vv hC).mono ?_; rintro e ww ⟨rfl, bb⟩; refine And.intro ?_ (hC.below bb); with_reducible rfl)
         go_big_quiet_on
         try simp only [Act.put, List.setIfInBounds_toArray, List.set_cons_zero, List.set_cons_succ]))
     refine wpQuiet_nil ?_
     intro vq hq
     clear HR1 HR2 HR3 HR4 HL
     have HQ := hid hq
     clear hq
     obtain ⟨a0, a1, a2, a3, a4, -, -, -, -, -⟩ := rowN5 HQ.out.l.a
     have cS := spoil_own HQ.out.oa HQ.out.hz HX2.out
     go_wp2_with fail
     refine cS.mono ?_
     rintro e w8 ⟨⟨k, hk, rfl⟩, hz, hos, htp, hot, hkeep⟩
     obtain ⟨N, hN⟩ := HN.out
     obtain ⟨g1, g2, g3, g4, g5, g6, g7⟩ := HQ.out.l.spoilt HQ.out.oa HQ.out.ob HQ.out.oi HCI.out hN (by have := HQB2.out; omega) HX.out hos htp hot hz hkeep
     have HW8 := hid g1
     have HM8 := hid g2
     have HI8 := hid g3
     have HK8 := hid g4
     have HMM := hid g5
     have HII := hid g6
     have HBB := hid g7
     have t0 : decide (0 < k) = true := decide_eq_true hk
     clear hz hos htp hot hkeep hN g1 g2 g3 g4 g5 g6 g7 cS a0 a1 a2 a3 a4 hk HQ HN
     obtain ⟨b0, b1, b2, b3, b4, -, -, -, -, -⟩ := rowN5 HK8.out
     obtain ⟨m0, m1, m2, m3, m4, -, -, -, -, -⟩ := rowN5 HM8.out
     have c1 := rsame_any HBB.out HMM.out (few_cut HX2.out) (few_cut HX2.out)
     rw [decide_eq_true rfl] at c1
     go_wp2_with fail
     refine c1.mono ?_
     rintro e w9 ⟨rfl, hb⟩
     have HW9 := hid (HW8.out.trans (hb.mono HW8.out.size))
     have hm9 := (hb.block _ (Go.lt_of_block HM8.out)).trans HM8.out
     have hi9 := (hb.block _ (Go.lt_of_block HI8.out)).trans HI8.out
     have c2 := rsame_any (HII.out.below hb) (HMM.out.below hb) (few_cut HX2.out) (few_cut HX2.out)
     rw [decide_eq_true rfl] at c2
     clear hb c1 b0 b1 b2 b3 b4 m0 m1 m2 m3 m4 t0
     obtain ⟨m0, m1, m2, m3, m4, -, -, -, -, -⟩ := rowN5 hm9
     obtain ⟨i0, i1, i2, i3, i4, -, -, -, -, -⟩ := rowN5 hi9
     clear hm9 hi9
     go_wp2_with fail
     refine c2.mono ?_
     rintro e w10 ⟨rfl, hb⟩
     have HW10 := hid (HW9.out.trans (hb.mono HW9.out.size))
     clear hb c2 m0 m1 m2 m3 m4 i0 i1 i2 i3 i4
     have cA := awake_any w10 (HE.out.below HW10.out)
     go_wp2_with fail
     refine cA.mono ?_
     rintro e wz ⟨rfl, hz⟩
     have HZ := hid ((HW10.out).trans (hz.mono (HW10.out).size))
     clear hz cA
     go_wp2_with fail
     go_ret
     exact ⟨rfl, HZ.out⟩
theorem msame_law (xs : List Value) (x : Mdl) (ys : List Value) (y : Mdl) (W : World) (hx : MIn W x xs) (cx : x.cut) (hy : MIn W y ys) (cy : y.cut) (hE : EnvO W) :
 Calls Tryz.prog 4 #[.agg xs.toArray, .agg ys.toArray] W fun e w' => e = .returned (.bool true) ∧ Below W.heap.size W w' := msame_walk xs ys x y W hx hy cx cy hE
end Go.Proofs.YteejphiklpnjhaaGreatDoor
