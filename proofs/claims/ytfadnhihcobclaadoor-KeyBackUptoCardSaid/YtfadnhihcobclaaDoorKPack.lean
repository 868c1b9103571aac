/- The walk of key.Pack. -/
import Derived.Test.YtfadnhihcobclaaDoorKPut
import Derived.Test.YtfadnhihcobclaaDoorKEsc
import Derived.Test.YtfadnhihcobclaaDoorStepOwn
import Derived.Laws.Closers25b
import Derived.Lib.AtoiErrMem
import Derived.Lib.ReplaceLaws
namespace Go.Proofs.YtfadnhihcobclaaDoor
open Go.RowKit
open Go.Lib (hid)

theorem ret_lc {a b : List UInt8 × Int} (h : a = b) : Ending.returned (.tuple #[.string ⟨a.1.toArray⟩, .int .i64 a.2]) = .returned (.tuple #[.string ⟨b.1.toArray⟩, .int .i64 b.2]) := by rw [h]

set_option maxRecDepth 100000 in
set_option maxHeartbeats 8000000 in
theorem pack_in (v n c : Nat) (ps : List K.Part) (hn : ps.length = n) (w : World) (hv : ∀ j u, (K.rowOf ps)[j]? = some u → w.cell? ⟨v, j, none⟩ = some u)
    (hp : ∀ p ∈ ps, p.say.size ≤ 2000000 ∧ -9223372036854775808 ≤ p.n ∧ p.n ≤ 9223372036854775807) (hM : ∃ m, w.cell? ⟨0, 0, none⟩ = some (.int .i64 m)) (h16 : n ≤ 16) :
    Calls Tryd.prog 14 #[.slice (some ⟨v, 0, none⟩) n c] w fun e w' => e = .returned (.tuple #[.string ⟨(K.pack ps).1.toArray⟩, .int .i64 (K.pack ps).2]) ∧ Below w.heap.size w w' := by
  obtain ⟨R, hR⟩ : ∃ R, K.pack ps = R := ⟨_, rfl⟩
  rw [hR]
  have HRES : Hid (R = if K.anyBad ps then ([], 1) else (K.packL ps, 0)) := by
    show _ = _
    rw [← hR]; unfold K.pack; rw [if_neg (by omega)]
  clear hR
  obtain ⟨i0, hi, hz0, hz1, hz2⟩ := info_parts infoByte
  have t0 : decide ((16 : Int) < (n : Int)) = false := by simp; omega
  go_enter Tryd.func14, Tryd.ntmps14
  go_wp2_with fail
  go_loopw [4, 12] (fun b i wr => ∃ (k : Nat) (l : List UInt8), k ≤ n ∧ i = .int .i64 k ∧ Hid (Row w.heap.size l b wr) ∧ Hid (Below w.heap.size w wr) ∧ Hid (l = K.packL (ps.take k) ∧ K.anyBad (ps.take k) = false ∧ l.length ≤ k * 5000000)) (fun _ i _ => n - (intOf i).toNat)
  case atStart => exact ⟨0, [], by omega, rfl, Row.nil _ _, Below.refl _ _, by show _ ∧ _ ∧ _; exact ⟨rfl, rfl, by simp⟩⟩
  case round =>
    obtain ⟨k, l, hk, rfl, hr, hb, hI⟩ := hrel
    by_cases hlt : k < n
    · have hl : decide ((k : Int) < (n : Int)) = true := by simp; omega
      obtain ⟨d0, d1, d2⟩ := K.rowOf_get ps k (by omega)
      have hcell : ∀ j u, (K.rowOf ps)[j]? = some u → wr.cell? ⟨v, j, none⟩ = some u := fun j u hu => by
        have h1 := hv j u hu
        rw [hb.out.cell (p := ⟨v, j, none⟩) (Lib.lt_of_cell h1)]; exact h1
      have c0 := hcell _ _ d0
      have c1 := hcell _ _ d1
      have c2 := hcell _ _ d2
      have hmem : ps[k]'(by omega) ∈ ps := List.getElem_mem _
      have hpk := hp _ hmem
      have htk : ps.take (k + 1) = ps.take k ++ [ps[k]'(by omega)] := by rw [List.take_succ_eq_append_getElem]
      have hdr : ps = ps.take k ++ ps[k]'(by omega) :: ps.drop (k + 1) := by
        conv => lhs; rw [← List.take_append_drop k ps, List.drop_eq_getElem_cons (show k < ps.length by omega)]
      obtain ⟨p, hpe⟩ : ∃ p, ps[k]'(by omega) = p := ⟨_, rfl⟩
      rw [hpe] at c0 c1 c2 hpk htk hdr
      obtain ⟨hI1, hI2, hI3⟩ := hI.out
      have hbad : p.bad = true → Hid (R = ([], 1)) := by
        intro h
        show _ = _
        have e : K.anyBad ps = true := by rw [hdr, K.anyBad_append]; simp [K.anyBad, h]
        rw [HRES.out, e]; rfl
      have hgood : p.bad = false → p.bytes.length ≤ 5000000 → Hid (l ++ p.bytes = K.packL (ps.take (k + 1)) ∧ K.anyBad (ps.take (k + 1)) = false ∧ (l ++ p.bytes).length ≤ (k + 1) * 5000000) := by
        intro h hlen
        refine ⟨?_, ?_, ?_⟩
        · rw [htk, K.packL_append, ← hI1]; simp [K.packL]
        · rw [htk, K.anyBad_append, hI2]; simp [K.anyBad, h]
        · rw [List.length_append]; omega
      have hllen : l.length ≤ 100000000000000 := by omega
      clear d0 d1 d2 hcell hmem htk hdr hpe hI hI1 hI2 hI3 hv hp t0 HRES
      obtain ⟨tx, x, sy⟩ := p
      obtain ⟨hps, hx0, hx1⟩ := hpk
      simp only at c0 c1 c2 hps hx0 hx1
      cases tx
      · by_cases hs0 : sy.size = 0
        · have hsy : sy = ⟨#[]⟩ := by
            have : sy.data.toList = [] := List.eq_nil_of_length_eq_zero hs0
            have e : sy = ⟨sy.data.toList.toArray⟩ := rfl
            rw [e, this]
          subst hsy
          have HG := hgood (by rfl) (by show (1 :: K.beN _ 8).length ≤ _; simp [K.beN_length])
          have hxb : -9223372036854775808 ≤ x ∧ x ≤ 9223372036854775807 := ⟨hx0, hx1⟩
          clear hbad hgood hs0 hps
          go_upto_region 7 with fail
          have hwr := hb.out.size
          have hR0 : Row w.heap.size l u4 (wr.alloc (.cells #[.bool false, .int .i64 x, .string ⟨#[]⟩] 26)) := World.ownsRow.alloc hr.out _
          have hB0 := hb.out.alloc hwr (.cells #[.bool false, .int .i64 x, .string ⟨#[]⟩] 26)
          have hcell : (wr.alloc (.cells #[.bool false, .int .i64 x, .string ⟨#[]⟩] 26)).cell? ⟨wr.heap.size, 1, none⟩ = some (.int .i64 x) := by
            rw [cell_of_row _ _ _ _ _ _ (heap_alloc_new wr _)]; rfl
          have hpb : (wr.alloc (.cells #[.bool false, .int .i64 x, .string ⟨#[]⟩] 26)).heap[wr.heap.size]? = some (.cells #[.bool false, .int .i64 x, .string ⟨#[]⟩] 26 (0, 0)) := heap_alloc_new wr _
          have hq1 : wr.heap.size < (wr.alloc (.cells #[.bool false, .int .i64 x, .string ⟨#[]⟩] 26)).heap.size := by simp
          have hne : ∀ j, u4.ownBlock = some j → j < wr.heap.size := fun j hj => (World.ownsRow.lt hr.out j hj).2
          generalize wr.alloc (.cells #[.bool false, .int .i64 x, .string ⟨#[]⟩] 26) = w1 at *
          obtain ⟨q, hq⟩ : ∃ q, wr.heap.size = q := ⟨_, rfl⟩
          rw [hq] at hcell hpb hq1 hne
          have hB1 := (hB0.alloc hB0.size (.cells #[.int .u8 1] 5)).drew
          have hR1 : Row w.heap.size l u4 (w1.alloc (.cells #[.int .u8 1] 5)).drew := World.ownsRow.drew (World.ownsRow.alloc hR0 _)
          have hpb1 : (w1.alloc (.cells #[.int .u8 1] 5)).drew.heap[q]? = some (.cells #[.bool false, .int .i64 x, .string ⟨#[]⟩] 26 (0, 0)) := by
            show (w1.alloc _).heap[q]? = _
            rw [Lib.alloc_old w1 _ q hq1]; exact hpb
          have hnew : ∀ j u, [Value.int .u8 1][j]? = some u → (w1.alloc (.cells #[.int .u8 1] 5)).drew.cell? ((⟨w1.heap.size, 0, none⟩ : Addr).add j) = some u := by
            intro j u hj
            match j, hj with
            | 0, hj => simp at hj; subst hj; simp [Addr.add]
          have hsz1 : w.heap.size ≤ (w1.alloc (.cells #[.int .u8 1] 5)).drew.heap.size := hB1.size
          have hcell1 : (w1.alloc (.cells #[.int .u8 1] 5)).drew.cell? ⟨q, 1, none⟩ = some (.int .i64 x) := by rw [cell_of_row _ _ _ _ _ _ hpb1]; rfl
          have hqs : q < (w1.alloc (.cells #[.int .u8 1] 5)).drew.heap.size := by show q < (w1.alloc _).heap.size; simp; omega
          have hgo : ∀ v' w', World.ownsRow w' w.heap.size 5 1 v' (l.length + 1) (Lib.byteCells l ++ [.int .u8 1]) → (w1.alloc (.cells #[.int .u8 1] 5)).drew.grownBy w' u4.ownBlock → Row w.heap.size (l ++ [1]) v' w' ∧ Below w.heap.size w w' ∧ w'.cell? ⟨q, 1, none⟩ = some (.int .i64 x) := by
            intro v' w' h1 h2
            refine ⟨Row.of_push (c := 1) h1, hB1.grown h2 hsz1 (fun k hk => (World.ownsRow.lt hR0 k hk).1), ?_⟩
            have : w'.heap[q]? = _ := h2.block q hqs (fun e => by have := hne q e.symm; omega)
            rw [hpb1] at this
            rw [cell_of_row _ _ _ _ _ _ this]; rfl
          obtain ⟨U, hU⟩ : ∃ U, bits .xor .u64 (IntKind.u64.wrap x) 9223372036854775808 = U := ⟨_, rfl⟩
          have hU0 := bits_lo_u64 .xor (IntKind.u64.wrap x) 9223372036854775808
          have hU1 := bits_hi_u64 .xor (IntKind.u64.wrap x) 9223372036854775808
          rw [hU] at hU0 hU1
          obtain ⟨u, rfl⟩ := Int.eq_ofNat_of_zero_le hU0
          have cP : ∀ v' w', Row w.heap.size (l ++ [1]) v' w' → Below w.heap.size w w' → Calls Tryd.prog 35 #[v', .int .u64 (u : Int)] w' fun e w'' => ∃ v'', e = .returned v'' ∧ Row w.heap.size (l ++ [1] ++ K.beN u 8) v'' w'' ∧ Below w.heap.size w w'' := by
            intro v' w' h1 h2
            refine (put_any w.heap.size (l ++ [1]) v' u (by omega) w' h2.size h1 (by rw [List.length_append, List.length_cons, List.length_nil]; omega)).mono ?_
            rintro e w'' ⟨v'', rfl, h3, h4⟩
            exact ⟨v'', rfl, h3, h2.trans h4⟩
          have HG2 : Hid (l ++ [1] ++ K.beN u 8 = K.packL (ps.take (k + 1)) ∧ K.anyBad (ps.take (k + 1)) = false ∧ (l ++ [1] ++ K.beN u 8).length ≤ (k + 1) * 5000000) := by
            have e : l ++ [1] ++ K.beN u 8 = l ++ (K.Part.bytes ⟨false, x, ⟨#[]⟩⟩) := by
              show _ = l ++ (1 :: K.beN (K.flipN x) 8)
              unfold K.flipN
              rw [hU, Int.toNat_natCast]; simp
            rw [e]; exact HG.out
          clear hpb hpb1 hq1 hne hB0 hB1 hR0 hr hb hwr hU0 hU1 c0 c1 c2
          go_region_law (
            first
              | (refine step_append_own rfl (.tmp 16) (.tmp 17) 63 rfl w.heap.size 5 i0 (.int .u8 0) 1 1 Tryd.underlying63 hi hz0 hz1 hz2 rfl (by decide) u4 l.length (Lib.byteCells l) (by simp [Act.eval, Act.put]) hR1 ⟨w1.heap.size, 0, none⟩ 1 1 [.int .u8 1] (by simp [Act.eval, Act.put]) rfl hnew (by intro u hu; simp at hu; subst hu; rfl) (by unfold maxLen; omega) (by omega) hsz1 ?_
                 intro v' w' hown' hgrow
                 obtain ⟨hR3, hB3, hcell3⟩ := hgo v' w' hown' hgrow)
              | (go_simp
                 go_at_call 35
                 refine (cP _ _ hR3 hB3).mono ?_
                 rintro e w'' ⟨v'', rfl, hR4, hB4⟩))
          all_goals
            have HR4 := hid hR4
            have HB4 := hid hB4
            clear hR4 hB4
            go_wp2_with fail
            go_roundw
            case rel => exact ⟨k + 1, _, by omega, by go_num, HR4, HB4, HG2⟩
            case measure => simp [intOf]; omega
        · have HU := hbad (by simp [K.Part.bad, hs0])
          have hemp : sy.toList.isEmpty = false := by
            rw [← decide_eq_emptyBytes]
            exact decide_eq_false (fun h => hs0 (by rw [h]; rfl))
          have hB := hid (hb.out.alloc hb.out.size (.cells #[.bool false, .int .i64 x, .string sy] 26))
          clear hbad hgood
          go_wp2_with fail
          go_ret2
          exact ⟨ret_lc (a := ([], 1)) HU.out.symm, hB.out⟩
      · by_cases hx : x = 0
        · subst hx
          have hel : (K.esc sy.data.toList).length ≤ 4000000 := by
            rw [K.esc_eq]
            have := K.escL_length sy.data.toList
            have e : sy.data.toList.length = sy.size := rfl
            omega
          have HG := hgood (by rfl) (by show (2 :: (K.esc sy.data.toList ++ [0, 0])).length ≤ _; simp only [List.length_cons, List.length_append, List.length_nil]; omega)
          have HG2 : Hid (l ++ [2] ++ K.esc sy.data.toList ++ [0, 0] = K.packL (ps.take (k + 1)) ∧ K.anyBad (ps.take (k + 1)) = false ∧ (l ++ [2] ++ K.esc sy.data.toList ++ [0, 0]).length ≤ (k + 1) * 5000000) := by
            have e : l ++ [2] ++ K.esc sy.data.toList ++ [0, 0] = l ++ (K.Part.bytes ⟨true, 0, sy⟩) := by
              show _ = l ++ (2 :: (K.esc sy.data.toList ++ [0, 0]))
              simp
            rw [e]; exact HG.out
          obtain ⟨m, hm⟩ := hM
          have hMlt := Lib.lt_of_cell hm
          clear hbad hgood HG hx0 hx1
          have hwr := hb.out.size
          have hR0 : Row w.heap.size l u4 (wr.alloc (.cells #[.bool true, .int .i64 0, .string sy] 26)) := World.ownsRow.alloc hr.out _
          have hB0 := hb.out.alloc hwr (.cells #[.bool true, .int .i64 0, .string sy] 26)
          have hpb : (wr.alloc (.cells #[.bool true, .int .i64 0, .string sy] 26)).heap[wr.heap.size]? = some (.cells #[.bool true, .int .i64 0, .string sy] 26 (0, 0)) := heap_alloc_new wr _
          have hq1 : wr.heap.size < (wr.alloc (.cells #[.bool true, .int .i64 0, .string sy] 26)).heap.size := by simp
          have hne : ∀ j, u4.ownBlock = some j → j < wr.heap.size := fun j hj => (World.ownsRow.lt hr.out j hj).2
          go_wp2_with (at_builtin; refine wpList_append_own _ rfl _ _ 63 rfl w.heap.size 5 i0 (.int .u8 0) 1 1 Tryd.underlying63 hi hz0 hz1 hz2 rfl (by decide) _ _ _ rfl (World.ownsRow.alloc hR0 _) ⟨wr.heap.size + 1, 0, none⟩ 1 1 [.int .u8 2] rfl rfl ?c1 ?c2 ?c3 ?c4 ?c5 ?_)
          case c2 => rfl
          case c3 => unfold maxLen; omega
          case c4 => omega
          case c5 => omega
          intro v' w3 hown' hgrow _
          have hR3 := Row.of_push (c := 2) hown'
          have hB1 := hB0.alloc hB0.size (.cells #[.int .u8 2] 5)
          have hB3 := hB1.grown hgrow (by have := hB1.size; simpa using this) (fun k hk => (World.ownsRow.lt hR0 k hk).1)
          have hcell3 : w3.cell? ⟨wr.heap.size, 2, none⟩ = some (.string sy) := by
            have hlt3 : wr.heap.size < ((wr.alloc (.cells #[.bool true, .int .i64 0, .string sy] 26)).alloc (.cells #[.int .u8 2] 5)).heap.size := by simp; omega
            have h4 := hgrow.block wr.heap.size hlt3 (fun e => by have := hne _ e.symm; omega)
            rw [Lib.alloc_old _ _ _ hq1, hpb] at h4
            rw [cell_of_row _ _ _ _ _ _ h4]; rfl
          have hm3 : w3.cell? ⟨0, 0, none⟩ = some (.int .i64 m) := by
            rw [hB3.cell (p := ⟨0, 0, none⟩) hMlt]; exact hm
          have cR := Tryd.strings_ReplaceAll sy ⟨#[0]⟩ ⟨#[0, 255]⟩ m w3 (by omega) hm3 (by decide) (by
            have := Lib.countB_mul_le ⟨#[0]⟩ (by decide) sy.size sy (Nat.le_refl _)
            have e : (⟨#[0]⟩ : ByteArray).size = 1 := rfl
            have e2 : (⟨#[0, 255]⟩ : ByteArray).size = 2 := rfl
            rw [e] at this; rw [e2]; omega)
          rw [show Lib.replaceAll sy.data.toList (⟨#[0]⟩ : ByteArray).data.toList (⟨#[0, 255]⟩ : ByteArray).data.toList = K.esc sy.data.toList from rfl] at cR
          obtain ⟨E, hE⟩ : ∃ E, K.esc sy.data.toList = E := ⟨_, rfl⟩
          rw [hE] at cR hel HG2
          have HB3 := hid hB3
          have HR3 := hid hR3
          clear hE hpb hq1 hne hR0 hB0 hB1 hB3 hR3 hown' hgrow hr hb hm hm3 c0 c1 c2
          go_wp2_with fail
          refine cR.mono ?_
          rintro e w4 ⟨rfl, b4⟩
          have hR4 := HR3.out.below b4
          have hB4 := HB3.out.trans (b4.mono HB3.out.size)
          have hsz4 := hB4.size
          clear b4
          go_wp2_with (refine Lib.wpList_append_own_string _ rfl _ _ 63 9 rfl w.heap.size 5 i0 Tryd.underlying63 Tryd.underlying9 hi hz0 hz1 hz2 _ _ _ rfl hR4 ⟨E.toArray⟩ rfl ?d3 ?d4 ?d5 ?_)
          case d3 => show _ + E.toArray.size ≤ maxLen; rw [List.size_toArray, List.length_append, List.length_cons, List.length_nil]; unfold maxLen; omega
          case d4 => show _ + E.toArray.size ≤ _; rw [List.size_toArray, List.length_append, List.length_cons, List.length_nil]; omega
          case d5 => omega
          intro v5 w5 hown5 hgrow5 _
          have hR5 := Row.of_append (l := l ++ [2]) (q := E) (by rw [List.length_append]; exact hown5)
          have hB5 := hB4.grown hgrow5 hsz4 (fun k hk => (World.ownsRow.lt hR4 k hk).1)
          have hsz5 := hB5.size
          clear hown5 hgrow5 hR4 hB4 HB3 HR3
          obtain ⟨L, hL⟩ : ∃ L, l ++ [2] ++ E = L := ⟨_, rfl⟩
          have hLl : L.length ≤ 100000005000000 := by rw [← hL]; simp only [List.length_append, List.length_cons, List.length_nil]; omega
          rw [hL] at hR5 HG2
          clear hL
          go_wp2_with (at_builtin; refine wpList_append_own _ rfl _ _ 63 rfl w.heap.size 5 i0 (.int .u8 0) 1 1 Tryd.underlying63 hi hz0 hz1 hz2 rfl (by decide) _ _ _ rfl (World.ownsRow.alloc hR5 _) ⟨w5.heap.size, 0, none⟩ 2 2 [.int .u8 0, .int .u8 0] rfl rfl ?f1 ?f2 ?f3 ?f4 ?f5 ?_)
          case f1 =>
            intro j u hj
            match j, hj with
            | 0, hj => simp at hj; subst hj; simp [Addr.add]
            | 1, hj => simp at hj; subst hj; simp [Addr.add]
          case f2 => intro u hu; simp at hu; subst hu; rfl
          case f3 => unfold maxLen; omega
          case f4 => omega
          case f5 => simp; omega
          intro v6 w6 hown6 hgrow6 _
          have hR6 : Row w.heap.size (L ++ [0, 0]) v6 w6 := by
            unfold Row
            rw [List.length_append, Lib.byteCells_append]
            exact hown6
          have HR6 := hid hR6
          have HB6 := hid ((hB5.alloc hsz5 _).grown hgrow6 (by simp; omega) (fun k hk => (World.ownsRow.lt hR5 k hk).1))
          clear hown6 hgrow6 hR5 hB5 hR6
          go_wp2_with fail
          go_roundw
          case rel => exact ⟨k + 1, _, by omega, by go_num, HR6, HB6, HG2⟩
          case measure => simp [intOf]; omega
        · have HU := hbad (by simp [K.Part.bad, hx])
          have q0 : (x == 0) = false := beq_eq_false_iff_ne.2 hx
          have q1 : (x != 0) = true := by rw [bne, q0]; rfl
          have hB := hid (hb.out.alloc hb.out.size (.cells #[.bool true, .int .i64 x, .string sy] 26))
          clear hbad hgood
          go_wp2_with fail
          all_goals
            go_ret2
            exact ⟨ret_lc (a := ([], 1)) HU.out.symm, hB.out⟩
    · obtain rfl : k = n := by omega
      have hl : decide ((k : Int) < (k : Int)) = false := by simp
      obtain ⟨hI1, hI2, hI3⟩ := hI.out
      rw [List.take_of_length_le (by omega)] at hI1 hI2
      have HF : Hid (R = (l, 0)) := by
        show _ = _
        rw [HRES.out, hI2, hI1]; rfl
      have hconv := hr.out.conv
      clear hI hI1 hI2 hI3 hv hp t0 HRES
      go_wp2_with fail
      go_ret2
      exact ⟨ret_lc (a := (l, 0)) HF.out.symm, hb.out⟩
end Go.Proofs.YtfadnhihcobclaaDoor
