/- The walk of word.Unquote. -/
import Derived.Test.YtohdifffdgoaaaaDoorWHexP
import Derived.Test.YtohdifffdgoaaaaDoorWQuote
namespace Go.Proofs.YtohdifffdgoaaaaDoor
open Go.RowKit
open Go.Lib (hid)

theorem Errs.keep {w w' : World} (h : Errs w) (hb : Below w.heap.size w w') : Errs w' := by
  obtain ⟨⟨t1, p1, h1⟩, ⟨t2, p2, h2⟩⟩ := h
  have c1 : w.cell? ⟨3, 0, none⟩ = some (.iface t1 p1) := by
    have h0 := World.var?_cell (show Tryd.prog.globalNamed "strconv.ErrSyntax" = some 3 by kernel_rfl) h1 0
    simpa using h0
  have c2 : w.cell? ⟨4, 0, none⟩ = some (.iface t2 p2) := by
    have h0 := World.var?_cell (show Tryd.prog.globalNamed "strconv.ErrRange" = some 4 by kernel_rfl) h2 0
    simpa using h0
  exact ⟨⟨t1, p1, var?_below hb (show Tryd.prog.globalNamed "strconv.ErrSyntax" = some 3 by kernel_rfl) (Lib.lt_of_cell c1) h1⟩,
    ⟨t2, p2, var?_below hb (show Tryd.prog.globalNamed "strconv.ErrRange" = some 4 by kernel_rfl) (Lib.lt_of_cell c2) h2⟩⟩
theorem ret_lb {a b : List UInt8 × Bool} (h : a = b) : Ending.returned (.tuple #[.string ⟨a.1.toArray⟩, .bool a.2]) = .returned (.tuple #[.string ⟨b.1.toArray⟩, .bool b.2]) := by rw [h]
theorem atF_below {T e : TypeId} {B b : Nat} {p : Value} {bs : List Value} {W W' : World} (h : Lib.BuilderAtF T e B b p bs W) (hb : Below W.heap.size W W') : Lib.BuilderAtF T e B b p bs W' := by
  have hlt := h.lt
  obtain ⟨hB, v, hv, hown, hne⟩ := h
  exact ⟨hB, v, (hb.block b hlt).trans hv, hown.kept (row := none) ⟨hb.os, hb.tape, hb.output, hb.size, fun k hk _ => hb.block k hk⟩ (Classical.em _), hne⟩
theorem Holds.below {B b : Nat} {l : List UInt8} {w w' : World} (h : Holds B b l w) (hb : Below w.heap.size w w') : Holds B b l w' := h.elim (fun x => .inl (atF_below x hb)) (fun x => .inr (atF_below x hb))
namespace W
theorem hexP2_lt (a b : UInt8) (v : Nat) (h : hexP 0 [a, b] = some v) : v < 256 := by
  cases ha : hexV a with
  | none => rw [hexP_none _ _ _ ha] at h; cases h
  | some x =>
    rw [hexP_some _ _ _ _ ha] at h
    cases hb : hexV b with
    | none => rw [hexP_none _ _ _ hb] at h; cases h
    | some y =>
      rw [hexP_some _ _ _ _ hb] at h
      simp only [hexP, Option.some.injEq] at h
      have := hexV_lt a x ha
      have := hexV_lt b y hb
      omega
theorem extract_from (s : ByteArray) (n : Nat) : (s.extract n s.size).data.toList = s.data.toList.drop n := by
  rw [ByteArray.data_extract, Array.toList_extract]
  simp only [List.extract_eq_take_drop]
  rw [List.take_of_length_le]
  simp
theorem extract_cut (s : ByteArray) (n m : Nat) : (s.extract n m).data.toList = (s.data.toList.drop n).take (m - n) := by
  rw [ByteArray.data_extract, Array.toList_extract]
theorem body_of (s : ByteArray) (h2 : 2 ≤ s.size) (h34 : s[0].toNat = 34) (hl34 : s[s.size - 1].toNat = 34) : s.data.toList = 34 :: ((s.extract 1 (s.size - 1)).data.toList ++ [34]) := by
  rw [extract_cut]
  have e0 : s.data.toList = s[0] :: s.data.toList.drop 1 := by have := drop_cons s 0 (by omega); simpa using this
  have e1 : s.data.toList.drop (s.size - 1) = s[s.size - 1] :: s.data.toList.drop (s.size - 1 + 1) := drop_cons s (s.size - 1) (by omega)
  have e2 : s.data.toList.drop (s.size - 1 + 1) = [] := List.drop_of_length_le (by simp; omega)
  have a0 : s[0] = 34 := u8eq h34
  have a1 : s[s.size - 1] = 34 := u8eq hl34
  rw [e2, a1] at e1
  rw [a0] at e0
  have e3 : s.data.toList.drop 1 = (s.data.toList.drop 1).take (s.size - 1 - 1) ++ (s.data.toList.drop 1).drop (s.size - 1 - 1) := (List.take_append_drop _ _).symm
  rw [List.drop_drop, show 1 + (s.size - 1 - 1) = s.size - 1 by omega, e1] at e3
  rw [← e3]; exact e0
theorem quoteL_ends (t : List UInt8) (s : ByteArray) (h : quoteL t = s.data.toList) : 2 ≤ s.size ∧ (∀ h0 : 0 < s.size, s[0].toNat = 34) ∧ (∀ h0 : s.size - 1 < s.size, s[s.size - 1].toNat = 34) := by
  have hl : s.size = (quoteIn t).length + 2 := by
    have := congrArg List.length h
    simp only [quoteL, List.length_cons, List.length_append, List.length_nil, Array.length_toList] at this
    show s.data.size = _
    omega
  refine ⟨by omega, ?_, ?_⟩
  · intro h0
    have e0 : s.data.toList = s[0] :: s.data.toList.drop 1 := by have := drop_cons s 0 (by omega); simpa using this
    rw [← h] at e0
    unfold quoteL at e0
    rw [← (List.cons.inj e0).1]; rfl
  · intro h0
    obtain ⟨k, hk⟩ : ∃ k, s.size - 1 = k := ⟨_, rfl⟩
    have key : ∀ (k : Nat) (hk : k < s.size), k = (quoteIn t).length + 1 → s[k].toNat = 34 := by
      intro k hk e
      have e1 : s.data.toList.drop k = s[k] :: s.data.toList.drop (k + 1) := drop_cons s k hk
      rw [← h] at e1
      unfold quoteL at e1
      obtain ⟨x, hx⟩ : ∃ x, s[k] = x := ⟨_, rfl⟩
      rw [hx] at e1 ⊢
      subst e
      rw [List.drop_succ_cons, List.drop_left] at e1
      rw [← (List.cons.inj e1).1]; rfl
    exact key _ h0 (by omega)
end W

set_option maxRecDepth 100000 in
set_option maxHeartbeats 8000000 in
theorem unq_in (s : ByteArray) (w : World) (hs : s.size ≤ 17592186044416) (hE : Errs w) (h2 : 2 ≤ s.size) (h34 : s[0].toNat = 34) (hl34 : s[s.size - 1].toNat = 34) :
    Calls Tryd.prog 67 #[.string s] w fun e w' => e = .returned (.tuple #[.string ⟨(W.unqL s.data.toList).1.toArray⟩, .bool (W.unqL s.data.toList).2]) ∧ Below w.heap.size w w' := by
  have HBODY := hid (W.body_of s h2 h34 hl34)
  obtain ⟨B, hBB⟩ : ∃ B, w.heap.size = B := ⟨_, rfl⟩
  have hfr := holds_fresh w
  have hsl0 : ∀ W : World, (Instr.slice 9 (.string s) (some (.int .i64 1)) (some (.int .i64 ((s.size : Int) - 1))) none).run Tryd.prog W = .ok (.string (s.extract 1 (s.size - 1))) W := by
    intro W
    have := run_slice_string (P := Tryd.prog) W 9 s .i64 .i64 1 ((s.size : Int) - 1) Tryd.underlying9 (by omega) (by omega) (by omega)
    rw [show ((s.size : Int) - 1).toNat = s.size - 1 by omega] at this
    exact this
  have hbl : (s.extract 1 (s.size - 1)).size + 2 = s.size := by
    have := congrArg List.length HBODY.out
    simp only [List.length_cons, List.length_append, List.length_nil, Array.length_toList] at this
    show (s.extract 1 (s.size - 1)).data.size + 2 = s.data.size
    omega
  obtain ⟨body, hbody⟩ : ∃ body, s.extract 1 (s.size - 1) = body := ⟨_, rfl⟩
  rw [hbody] at HBODY hsl0 hbl
  have HLEN := hid hbl
  rw [hBB] at hfr
  have HF := hid hfr
  have hEB := hid hE
  have t0 : decide ((s.size : Int) < 2) = false := by simp; omega
  have t1 : ((s[0].toNat : Int) == 34) = true := beq_iff_eq.2 (by omega)
  have t2 : ((s[s.size - 1].toNat : Int) == 34) = true := beq_iff_eq.2 (by omega)
  clear hbody hfr hE
  go_enter Tryd.func67, Tryd.ntmps67
  go_wp2_with fail
  clear t0 t1 t2 hsl0
  go_loopw [5] (fun r wr => ∃ (x : ByteArray) (out : List UInt8), r = .string x ∧ Hid (W.Left body.data.toList out x.data.toList) ∧ Hid (Holds B B out wr) ∧ Hid (out.length + x.size ≤ body.size) ∧ Hid (Below B w wr)) (fun r _ => match r with | .string x => x.size | _ => 0)
  case atStart => exact ⟨body, [], rfl, W.Left.start _, HF, by show 0 + body.size ≤ body.size; omega, by show Below _ _ _; rw [← hBB]; exact (Below.refl _ w).alloc (Nat.le_refl _) _⟩
  case round =>
    obtain ⟨x, out, rfl, hL, hH, hln, hb⟩ := hrel
    have hb' : Below B w wr := hb.out
    have hBle : B ≤ wr.heap.size := by have := hb'.size; omega
    have hbs := HLEN.out
    have hl' := hln.out
    have HBLE := hid hBle
    by_cases hx0 : 0 < x.size
    · have hemp : x.toList.isEmpty = false := by
        rw [← decide_eq_emptyBytes]
        exact decide_eq_false (fun h => by rw [h] at hx0; exact absurd hx0 (by decide))
      have e0 : x.data.toList = x[0] :: x.data.toList.drop 1 := by have := W.drop_cons x 0 hx0; simpa using this
      have hbx : x[0].toNat < 256 := x[0].toNat_lt
      have hsl : ∀ (n : Nat), n ≤ x.size → ∀ W : World, (Instr.slice 9 (.string x) (some (.int .i64 (n : Int))) none none).run Tryd.prog W = .ok (.string (x.extract n x.size)) W := by
        intro n hn W
        have := run_slice_string_l (P := Tryd.prog) (w := W) (s := x) (t := 9) Tryd.underlying9 .i64 (n : Int) (by omega) (by omega)
        rw [Int.toNat_natCast] at this
        exact this
      have hsz : ∀ n, n ≤ x.size → (x.extract n x.size).size = x.size - n := by
        intro n hn
        have := congrArg List.length (W.extract_from x n)
        simp only [Array.length_toList, List.length_drop] at this
        exact this
      have HS := hid hsz
      clear hsz
      by_cases c0 : x[0].toNat = 92
      · have f0 : ((x[0].toNat : Int) == 92) = true := beq_iff_eq.2 (by omega)
        have a92 : x[0] = 92 := W.u8eq c0
        rw [a92] at e0
        by_cases hx1 : 1 < x.size
        · have g1 : decide ((1 : Int) < (x.size : Int)) = true := by simp; omega
          have e1 : x.data.toList.drop 1 = x[1] :: x.data.toList.drop 2 := W.drop_cons x 1 hx1
          rw [e1] at e0
          have hby : x[1].toNat < 256 := x[1].toNat_lt
          have hsl2 : ∀ W : World, (Instr.slice 9 (.string x) (some (.int .i64 2)) none none).run Tryd.prog W = .ok (.string (x.extract 2 x.size)) W := hsl 2 (by omega)
          by_cases c1 : x[1].toNat = 110
          · have f1 : ((x[1].toNat : Int) == 110) = true := beq_iff_eq.2 (by omega)
            have cW : Calls Tryd.prog 86 #[.pointer (some ⟨B, 0, none⟩), .int .u8 10] wr _ := writeByte_any B B out 10 wr hH.out (by omega) hBle
            have HN : Hid (W.Left body.data.toList (out ++ [10]) (x.extract 2 x.size).data.toList) := by
              show W.Left _ _ _
              rw [W.extract_from]
              refine hL.out.next (c := 10) (fun t ht => ?_)
              rw [e0, show x[1] = 110 from W.u8eq c1] at ht
              exact W.in_line t _ ht
            clear e0 e1 a92 c0 c1 hsl hH hL hBle hl' hbs
            go_wp2_with fail
            refine cW.mono ?_
            rintro e w2 ⟨rfl, h2', hb2, -⟩
            have H2 := hid h2'
            have HB2 := hid (hb'.trans hb2)
            clear h2' hb2
            go_wp2_with fail
            go_roundw
            case rel => exact ⟨_, _, rfl, HN, H2, by show _ ≤ _; rw [HS.out 2 (by omega), List.length_append]; have := hln.out; simp only [List.length_cons, List.length_nil]; omega, HB2⟩
            case measure => simp only []; rw [HS.out 2 (by omega)]; omega
          · have f1 : ((x[1].toNat : Int) == 110) = false := beq_eq_false_iff_ne.2 (by omega)
            by_cases c2 : 3 < x.size ∧ x[1].toNat = 120
            · obtain ⟨c3, c4⟩ := c2
              have g3 : decide ((3 : Int) < (x.size : Int)) = true := by simp; omega
              have f2 : ((x[1].toNat : Int) == 120) = true := beq_iff_eq.2 (by omega)
              have hsl4 : ∀ W : World, (Instr.slice 9 (.string x) (some (.int .i64 4)) none none).run Tryd.prog W = .ok (.string (x.extract 4 x.size)) W := hsl 4 (by omega)
              have hsl24 : ∀ W : World, (Instr.slice 9 (.string x) (some (.int .i64 2)) (some (.int .i64 4)) none).run Tryd.prog W = .ok (.string (x.extract 2 4)) W := by
                intro W
                have := run_slice_string (P := Tryd.prog) W 9 x .i64 .i64 2 4 Tryd.underlying9 (by omega) (by omega) (by omega)
                exact this
              have e2 : x.data.toList.drop 2 = x[2] :: x.data.toList.drop 3 := W.drop_cons x 2 (by omega)
              have e3 : x.data.toList.drop 3 = x[3] :: x.data.toList.drop 4 := W.drop_cons x 3 (by omega)
              have hy : (x.extract 2 4).data.toList = [x[2], x[3]] := by rw [W.extract_cut, e2, e3]; rfl
              obtain ⟨y, hyy⟩ : ∃ y, x.extract 2 4 = y := ⟨_, rfl⟩
              rw [hyy] at hy hsl24
              have hys : y.size = 2 := by
                have := congrArg List.length hy
                simpa using this
              have cP := parseHex_any y hys wr (hEB.out.keep (by rw [hBB]; exact hb'))
              rw [hy] at cP
              rw [e2, e3, show x[1] = 120 from W.u8eq c4] at e0
              cases hv : W.hexP 0 [x[2], x[3]] with
              | none =>
                rw [hv] at cP
                simp only [] at cP
                have HU : Hid (W.unqL s.data.toList = ([], false)) := by
                  show _ = _
                  refine W.unqL_no (fun t ht => ?_)
                  rw [HBODY.out] at ht
                  refine hL.out.none (fun t' ht' => ?_) t (W.quoteL_in ht)
                  rw [e0] at ht'
                  obtain ⟨c, t'', _, h1, h2, _⟩ := W.in_hex _ _ _ _ ht'
                  rw [h1, h2, W.hexP_of] at hv
                  cases hv
                clear e0 e1 e2 e3 a92 c0 c1 c4 hsl hsl2 hH hL hBle hl' hbs hy hyy hv
                go_wp2_with fail
                refine cP.mono ?_
                rintro e w2 ⟨⟨N, rfl⟩, hb2⟩
                have HB2 := hid (hb'.trans (hb2.mono HBLE.out))
                clear hb2
                go_wp2_with fail
                go_ret2
                exact ⟨ret_lb (a := ([], false)) (by rw [HU.out]), by rw [hBB]; exact HB2.out⟩
              | some v =>
                rw [hv] at cP
                simp only [] at cP
                have hv256 := W.hexP2_lt _ _ _ hv
                have hcv : (UInt8.ofNat v).toNat = v := by simp; omega
                have wv : IntKind.u8.wrap (v : Int) = (v : Int) := IntWalk.u8_in _ (by omega)
                have HN : Hid (W.Left body.data.toList (out ++ [UInt8.ofNat v]) (x.extract 4 x.size).data.toList) := by
                  show W.Left _ _ _
                  rw [W.extract_from]
                  refine hL.out.next (fun t ht => ?_)
                  rw [e0] at ht
                  obtain ⟨c, t'', ht', h1, h2, h3⟩ := W.in_hex _ _ _ _ ht
                  rw [h1, h2, W.hexP_of] at hv
                  refine ⟨t'', ?_, h3⟩
                  rw [ht', W.u8eq (a := UInt8.ofNat v) (b := c) (by rw [hcv]; exact (Option.some.inj hv).symm)]
                clear e0 e1 e2 e3 a92 c0 c1 c4 hsl hsl2 hL hBle hbs hy hyy hv
                go_wp2_with fail
                refine cP.mono ?_
                rintro e w2 ⟨rfl, hb2⟩
                have hsz2 := hb2.size
                have cW := writeByte_any B B out (UInt8.ofNat v) w2 (hH.out.below hb2) (by omega) (by have := HBLE.out; omega)
                rw [hcv] at cW
                have HB2 := hid (hb'.trans (hb2.mono HBLE.out))
                clear hb2 hcv hv256 hH hl'
                go_wp2_with fail
                refine cW.mono ?_
                rintro e w3 ⟨rfl, h3', hb3, -⟩
                have H3 := hid h3'
                have HB3 := hid (HB2.out.trans hb3)
                clear h3' hb3
                go_wp2_with fail
                go_roundw
                case rel => exact ⟨_, _, rfl, HN, H3, by show _ ≤ _; rw [HS.out 4 (by omega), List.length_append]; have := hln.out; simp only [List.length_cons, List.length_nil]; omega, HB3⟩
                case measure => simp only []; rw [HS.out 4 (by omega)]; omega
            · have cW := writeByte_any B B out x[1] wr hH.out (by omega) hBle
              have HN : Hid (W.Left body.data.toList (out ++ [x[1]]) (x.extract 2 x.size).data.toList) := by
                show W.Left _ _ _
                rw [W.extract_from]
                refine hL.out.next (fun t ht => ?_)
                rw [e0] at ht
                refine W.in_back t _ _ ht c1 ?_
                by_cases h : x[1].toNat = 120
                · right
                  rw [List.length_drop, Array.length_toList]
                  show x.size - 2 < 2
                  omega
                · left; exact h
              have hg : decide ((3 : Int) < (x.size : Int)) = false ∨ (decide ((3 : Int) < (x.size : Int)) = true ∧ ((x[1].toNat : Int) == 120) = false) := by
                by_cases h : 3 < x.size
                · right; exact ⟨by simp; omega, beq_eq_false_iff_ne.2 (by omega)⟩
                · left; simp; omega
              clear e0 e1 a92 c0 c1 c2 hsl hH hL hBle hl' hbs
              rcases hg with g3 | ⟨g3, f2⟩
              all_goals
                go_wp2_with fail
                refine cW.mono ?_
                rintro e w2 ⟨rfl, h2', hb2, -⟩
                have H2 := hid h2'
                have HB2 := hid (hb'.trans hb2)
                clear h2' hb2
                go_wp2_with fail
                go_roundw
                case rel => exact ⟨_, _, rfl, HN, H2, by show _ ≤ _; rw [HS.out 2 (by omega), List.length_append]; have := hln.out; simp only [List.length_cons, List.length_nil]; omega, HB2⟩
                case measure => simp only []; rw [HS.out 2 (by omega)]; omega
        · have g1 : decide ((1 : Int) < (x.size : Int)) = false := by simp; omega
          have g3 : decide ((3 : Int) < (x.size : Int)) = false := by simp; omega
          have hsl1 : ∀ W : World, (Instr.slice 9 (.string x) (some (.int .i64 1)) none none).run Tryd.prog W = .ok (.string (x.extract 1 x.size)) W := hsl 1 (by omega)
          have e1 : x.data.toList.drop 1 = [] := List.drop_of_length_le (by rw [Array.length_toList]; show x.size ≤ 1; omega)
          rw [e1] at e0
          have HN : Hid (W.Left body.data.toList out (x.extract 1 x.size).data.toList) := by
            show W.Left _ _ _
            intro t ht
            exact (hL.out.none (fun t' ht' => W.in_alone t' (by rw [ht', e0])) t ht).elim
          clear e0 e1 a92 c0 hsl hL hBle hl' hbs
          go_wp2_with fail
          go_roundw
          case rel => exact ⟨_, _, rfl, HN, hH, by show _ ≤ _; rw [HS.out 1 (by omega)]; have := hln.out; omega, hb⟩
          case measure => simp only []; rw [HS.out 1 (by omega)]; omega
      · have f0 : ((x[0].toNat : Int) == 92) = false := beq_eq_false_iff_ne.2 (by omega)
        have hsl1 : ∀ W : World, (Instr.slice 9 (.string x) (some (.int .i64 1)) none none).run Tryd.prog W = .ok (.string (x.extract 1 x.size)) W := hsl 1 (by omega)
        have cW := writeByte_any B B out x[0] wr hH.out (by omega) hBle
        have HN : Hid (W.Left body.data.toList (out ++ [x[0]]) (x.extract 1 x.size).data.toList) := by
          show W.Left _ _ _
          rw [W.extract_from]
          refine hL.out.next (fun t ht => ?_)
          rw [e0] at ht
          exact W.in_plain t _ _ c0 ht
        clear e0 c0 hsl hH hL hBle hl' hbs
        go_wp2_with fail
        refine cW.mono ?_
        rintro e w2 ⟨rfl, h2', hb2, -⟩
        have H2 := hid h2'
        have HB2 := hid (hb'.trans hb2)
        clear h2' hb2
        go_wp2_with fail
        go_roundw
        case rel => exact ⟨_, _, rfl, HN, H2, by show _ ≤ _; rw [HS.out 1 (by omega), List.length_append]; have := hln.out; simp only [List.length_cons, List.length_nil]; omega, HB2⟩
        case measure => simp only []; rw [HS.out 1 (by omega)]; omega
    · have hnil : x.data.toList = [] := List.eq_nil_of_length_eq_zero (by rw [Array.length_toList]; show x.size = 0; omega)
      have hemp : x.toList.isEmpty = true := by rw [Lib.toList_data, hnil]; rfl
      have hL0 : W.Left body.data.toList out [] := by have := hL.out; rwa [hnil] at this
      have cS := string_any B B out wr hH.out hBle
      obtain ⟨q, hq⟩ : ∃ q, decide (W.quoteL out = s.data.toList) = q := ⟨_, rfl⟩
      have hne : (W.quoteL out == s.toList) = q := by rw [Lib.toList_data, W.list_beq]; exact hq
      have HU : Hid (W.unqL s.data.toList = if q then (out, true) else ([], false)) := by
        show _ = _
        rw [← hq]
        by_cases h : W.quoteL out = s.data.toList
        · rw [decide_eq_true h, W.unqL_of h]; rfl
        · rw [decide_eq_false h]
          refine W.unqL_no (fun t ht => h ?_)
          rw [← ht]
          rw [HBODY.out] at ht
          rw [hL0.stop t (W.quoteL_in ht)]
      have hol : out.length ≤ 17592186044416 := by omega
      clear hq hnil hL hL0 hl' hbs
      cases q
      all_goals
        go_wp2_with fail
        refine cS.mono ?_
        rintro e w2 ⟨rfl, h2', hb2, -⟩
        have hsz2 := hb2.size
        have cQ := quote_any ⟨out.toArray⟩ w2 (by show out.toArray.size ≤ _; simpa using hol)
        have HB2 := hid (hb'.trans hb2)
        have H2 := hid h2'
        have hB2 : B ≤ w2.heap.size := by have := HBLE.out; omega
        clear hb2 h2'
        go_wp2_with fail
        refine cQ.mono ?_
        rintro e w3 ⟨rfl, hb3⟩
        have HB3 := hid (HB2.out.trans (hb3.mono hB2))
        have H3 := hid (H2.out.below hb3)
        have hB3 : B ≤ w3.heap.size := by have := hb3.size; omega
        have cS2 := string_any B B out w3 H3.out hB3
        clear hb3
        first
          | (go_wp2_with fail
             go_ret2
             exact ⟨ret_lb (a := ([], false)) (by rw [HU.out]; rfl), by rw [hBB]; exact HB3.out⟩)
          | (go_wp2_with fail
             refine cS2.mono ?_
             rintro e w4 ⟨rfl, -, hb4, -⟩
             have HB4 := hid (HB3.out.trans hb4)
             clear hb4
             go_wp2_with fail
             go_ret2
             exact ⟨ret_lb (a := (out, true)) (by rw [HU.out]; rfl), by rw [hBB]; exact HB4.out⟩)

set_option maxRecDepth 100000 in
set_option maxHeartbeats 2000000 in
theorem unquote_any (s : ByteArray) (w : World) (hs : s.size ≤ 17592186044416) (hE : Errs w) :
    Calls Tryd.prog 67 #[.string s] w fun e w' => e = .returned (.tuple #[.string ⟨(W.unqL s.data.toList).1.toArray⟩, .bool (W.unqL s.data.toList).2]) ∧ Below w.heap.size w w' := by
  by_cases h2 : 2 ≤ s.size
  · by_cases h34 : s[0].toNat = 34
    · by_cases hl34 : s[s.size - 1].toNat = 34
      · exact unq_in s w hs hE h2 h34 hl34
      · have HU : Hid (W.unqL s.data.toList = ([], false)) := by
          show _ = _
          exact W.unqL_no (fun t ht => hl34 ((W.quoteL_ends t s ht).2.2 (by omega)))
        have t0 : decide ((s.size : Int) < 2) = false := by simp; omega
        have t1 : ((s[0].toNat : Int) == 34) = true := beq_iff_eq.2 (by omega)
        have t2 : ((s[s.size - 1].toNat : Int) == 34) = false := beq_eq_false_iff_ne.2 (by omega)
        have t3 : ((s[s.size - 1].toNat : Int) != 34) = true := by rw [bne, t2]; rfl
        clear h34 hl34 hE
        go_enter Tryd.func67, Tryd.ntmps67
        go_wp2_with fail
        all_goals
          go_ret2
          exact ⟨ret_lb (a := ([], false)) (by rw [HU.out]), Below.refl _ _⟩
    · have HU : Hid (W.unqL s.data.toList = ([], false)) := by
        show _ = _
        exact W.unqL_no (fun t ht => h34 ((W.quoteL_ends t s ht).2.1 (by omega)))
      have t0 : decide ((s.size : Int) < 2) = false := by simp; omega
      have t1 : ((s[0].toNat : Int) == 34) = false := beq_eq_false_iff_ne.2 (by omega)
      clear h34 hE
      go_enter Tryd.func67, Tryd.ntmps67
      go_wp2_with fail
      go_ret2
      exact ⟨ret_lb (a := ([], false)) (by rw [HU.out]), Below.refl _ _⟩
  · have HU : Hid (W.unqL s.data.toList = ([], false)) := by
      show _ = _
      exact W.unqL_no (fun t ht => h2 (W.quoteL_ends t s ht).1)
    have t0 : decide ((s.size : Int) < 2) = true := by simp; omega
    clear hE
    go_enter Tryd.func67, Tryd.ntmps67
    go_wp2_with fail
    go_ret2
    exact ⟨ret_lb (a := ([], false)) (by rw [HU.out]), Below.refl _ _⟩
end Go.Proofs.YtohdifffdgoaaaaDoor
