/- Parse: the value of any text. -/
import Derived.Test.YtphjfighamadgaaGreatDoorJVal4
namespace Go.Proofs.YtphjfighamadgaaGreatDoor
open Go.RowKit
open Go.Lib (hid)
theorem heapD (W : World) : W.drew.heap = W.heap := rfl
theorem pt6_otherD (w : World) (g k : Nat) (c0 c1 c2 c3 c4 c5 : Value) (h : k ≠ g) : (pt6 w g c0 c1 c2 c3 c4 c5).drew.heap[k]? = w.heap[k]? := by
  rw [heapD]; exact pt6_other w g k c0 c1 c2 c3 c4 c5 h
theorem pt6_rowD {w : World} {b : Nat} {x0 x1 x2 x3 x4 x5 : Value} {t : TypeId} (h : w.heap[b]? = some (.cells #[x0, x1, x2, x3, x4, x5] t (0, 0))) (c0 c1 c2 c3 c4 c5 : Value) : (pt6 w b c0 c1 c2 c3 c4 c5).drew.heap[b]? = some (.cells #[c0, c1, c2, c3, c4, c5] t (0, 0)) := by
  rw [heapD]; exact pt6_row h c0 c1 c2 c3 c4 c5
theorem pt6_belowD {B : Nat} {a w : World} {b : Nat} (h : Below B a w) (hb : B ≤ b) (c0 c1 c2 c3 c4 c5 : Value) : Below B a (pt6 w b c0 c1 c2 c3 c4 c5).drew := (pt6_below h hb c0 c1 c2 c3 c4 c5).drew
theorem results_triple {P : Program} {fn : Func} {p q r : Tmp} {ty : TypeId} (h : fn.results = #[.cell p ty, .tmp q, .tmp r]) (tmps : Array Value) (w : World) (g : Nat) (t : TypeId) (cs : Array Value) (fr : Nat × Nat) (d : TypeDesc) (v u : Value)
    (hp : tmps.getD p undef = .pointer (some ⟨g, 0, none⟩)) (hg : w.heap[g]? = some (.cells cs t fr)) (hq : tmps.getD q undef = v) (hr : tmps.getD r undef = u)
    (hu : P.underlying ty = some d) (hd : (match d with | .struct _ | .array _ _ => true | _ => false) = true) (hi : (P.info? ty).map (·.size) = some cs.size) :
    (results fn tmps).run P w = .ok (.tuple #[.agg cs, v, u]) w := by
  have hp' : tmps[p]?.getD undef = .pointer (some ⟨g, 0, none⟩) := by simpa using hp
  have hq' : tmps[q]?.getD undef = v := by simpa using hq
  have hr' : tmps[r]?.getD undef = u := by simpa using hr
  simp [results, h, hp', hq', hr', asAddr, run_loadVar_row w g t ty cs fr d hg hu hd hi]
/-- how Parse ends -/
def ParseOf (w : World) (x : J.V × Int × Int) (e : Ending) (W : World) : Prop :=
  ∃ (v : J.V) (cs : List Value), v.loose x.1 ∧ e = .returned (.tuple #[.agg cs.toArray, .int .i64 x.2.1, .int .i64 x.2.2]) ∧ v.Has W (Own W w.heap.size none) cs ∧ Below w.heap.size w W
theorem parse_zero {w W : World} {x : J.V × Int × Int} (h : x.1 = J.V.zero) (hb : Below w.heap.size w W) : ParseOf w x (.returned (.tuple #[.agg #[.int .u8 0, .bool false, .int .i64 0, .string ⟨#[]⟩, .slice none 0 0, .slice none 0 0], .int .i64 x.2.1, .int .i64 x.2.2])) W :=
  ⟨J.V.zero, _, by rw [h]; exact J.V.loose_refl _, rfl, has_flat _ _ 0 false 0 ⟨#[]⟩, hb⟩
theorem big_parse {s : ByteArray} (h : 65536 < s.size) : J.parse s.data.toList = (J.V.zero, 0, 3) := by
  unfold J.parse; rw [if_pos (by rw [← Lib.size_eq]; exact h)]
theorem parse_err {s : ByteArray} (h : ¬ 65536 < s.size) {n : Nat} {er : Int} (hx : J.val 16 s.data.toList = .error (n, er)) : J.parse s.data.toList = (J.V.zero, ((s.size - n : Nat) : Int), er) := by
  unfold J.parse; rw [if_neg (by rw [← Lib.size_eq]; exact h), hx, ← Lib.size_eq]
theorem parse_rest {s : ByteArray} (h : ¬ 65536 < s.size) {y : J.V} {r : List UInt8} (hx : J.val 16 s.data.toList = .ok (y, r)) {q : Nat} (hq : q < s.size) (hs : J.skip r = s.data.toList.drop q) : J.parse s.data.toList = (J.V.zero, (q : Int), 4) := by
  unfold J.parse; rw [if_neg (by rw [← Lib.size_eq]; exact h), hx]
  simp only
  rw [hs, drop_at hq]
  simp only
  rw [drop_len, ← Lib.size_eq, show s.size - (s.size - (q + 1) + 1) = q by omega]
theorem parse_ok {s : ByteArray} (h : ¬ 65536 < s.size) {y : J.V} {r : List UInt8} (hx : J.val 16 s.data.toList = .ok (y, r)) (hs : J.skip r = []) : J.parse s.data.toList = (y, 0, 0) := by
  unfold J.parse; rw [if_neg (by rw [← Lib.size_eq]; exact h), hx]
  simp only
  rw [hs]
theorem val_rest {s : ByteArray} {y : J.V} {r : List UInt8} (hx : J.val 16 (s.data.toList.drop 0) = .ok (y, r)) : r = s.data.toList.drop (s.size - r.length) ∧ s.size - r.length ≤ s.size := by
  obtain ⟨a, ha⟩ := (J.val_fair 16 (s.data.toList.drop 0)).1 _ _ hx
  rw [List.drop_zero] at ha
  have hl := congrArg List.length ha
  rw [List.length_append, ← Lib.size_eq] at hl
  refine ⟨?_, Nat.sub_le _ _⟩
  rw [show s.size - r.length = a.length by omega, ← ha, List.drop_left']
  rfl
set_option maxRecDepth 100000 in
set_option maxHeartbeats 2000000 in
theorem parse_big {s : ByteArray} (hs : 65536 < s.size) (w : World) : Calls Tryz.prog 8 #[.string s] w (ParseOf w (J.parse s.data.toList)) := by
  rw [big_parse hs]
  have t0 : decide ((65536 : Int) < (s.size : Int)) = true := decide_eq_true (by omega)
  go_enter Tryz.func8, Tryz.ntmps8
  go_upto_region 2 with fail
  obtain ⟨w1, hw1⟩ : ∃ w1, w.alloc (.cells #[.int .u8 0, .bool false, .int .i64 0, .string ⟨#[]⟩, .slice none 0 0, .slice none 0 0] 25) = w1 := ⟨_, rfl⟩
  have hv : w1.heap[w.heap.size]? = some (vRow 0 (.slice none 0 0) (.slice none 0 0)) := by rw [← hw1]; exact heap_alloc_new w _
  have hb : Below w.heap.size w w1 := by rw [← hw1]; exact (Below.refl _ w).alloc (Nat.le_refl _) _
  rw [hw1]
  have HV := hid hv
  have HB := hid hb
  clear hw1 hb
  obtain ⟨v0, v1, v2, v3, v4, v5⟩ := vcells hv
  obtain ⟨f0, f1, f2, f3, f4, f5⟩ := vfree hv
  clear hv
  go_wp2_with fail
  exact bodyPost_ret (v := .tuple #[.agg #[.int .u8 0, .bool false, .int .i64 0, .string ⟨#[]⟩, .slice none 0 0, .slice none 0 0], .int .i64 0, .int .i64 3]) (results_triple rfl _ _ w.heap.size 25 #[.int .u8 0, .bool false, .int .i64 0, .string ⟨#[]⟩, .slice none 0 0, .slice none 0 0] (0, 0) _ (.int .i64 0) (.int .i64 3) rfl (pt6_row HV.out _ _ _ _ _ _) rfl rfl Tryz.underlying25 rfl infoJSON) rfl (parse_zero (x := (J.V.zero, 0, 3)) rfl (pt6_below HB.out (Nat.le_refl _) _ _ _ _ _ _))
theorem parse_value {w w2 w3 w4 w5 : World} {R : Nat} {y v : J.V} {cs : List Value} (hlo : v.loose y) (hh : v.Has w3 (Own w3 w2.heap.size none) cs) (h3 : w2.grownBy w3 (some R)) (h4 : Below w3.heap.size w3 w4) (h5 : w4.grownBy w5 (some R)) (hb2 : Below w.heap.size w w2) (hb5 : Below w.heap.size w w5) (hR : R < w2.heap.size) (hN : w.heap.size < w2.heap.size) {c0 c1 c2 c3 c4 c5 : Value} :
    ParseOf w (y, 0, 0) (.returned (.tuple #[.agg cs.toArray, .int .i64 0, .int .i64 0])) (pt6 w5 w.heap.size c0 c1 c2 c3 c4 c5) := by
  have hs3 := h3.size
  have hs4 := h4.size
  have hs5 := h5.size
  have hs2 := hb2.size
  refine ⟨v, cs, hlo, rfl, ?_, pt6_below hb5 (Nat.le_refl _) _ _ _ _ _ _⟩
  have hk : ∀ b, Own w3 w2.heap.size none b → (pt6 w5 w.heap.size c0 c1 c2 c3 c4 c5).heap[b]? = w3.heap[b]? := fun b hb => by
    rw [pt6_other _ _ _ _ _ _ _ _ _ (by have := hb.1; omega), h5.block b (by have := hb.2.1; omega) (fun e => by have := Option.some.inj e; have := hb.1; omega), h4.block b hb.2.1]
  refine J.V.Has.keep (P := Own w3 w2.heap.size none) ?_ hk hh
  intro b hb
  have e := hk b hb
  obtain ⟨h1, h2, h6, cs', T, h7⟩ := hb
  exact ⟨by omega, by rw [pt6_size]; omega, h6, cs', T, by rw [e]; exact h7⟩
set_option maxRecDepth 100000 in
set_option maxHeartbeats 1000000 in
theorem parse_small {s : ByteArray} (hs : ¬ 65536 < s.size) (w : World) (hE : Errs w) (hT : Tabs w) : Calls Tryz.prog 8 #[.string s] w (ParseOf w (J.parse s.data.toList)) := by
  have HS0 := hid hs
  obtain ⟨RES, hRES⟩ : ∃ x, J.parse s.data.toList = x := ⟨_, rfl⟩
  rw [hRES]
  have t0 : decide ((65536 : Int) < (s.size : Int)) = false := decide_eq_false (by omega)
  have hm : s.size ≤ 65536 := by omega
  have HRES := hid hRES
  have HG := hid (Ground.first hE hT)
  clear hRES hE hT hs
  go_enter Tryz.func8, Tryz.ntmps8
  go_upto_region 4 with fail
  obtain ⟨w2, hw2⟩ : ∃ w2, (w.alloc (.cells #[.int .u8 0, .bool false, .int .i64 0, .string ⟨#[]⟩, .slice none 0 0, .slice none 0 0] 25)).alloc (.cells #[.string s, .int .i64 0, .int .i64 0, .int .i64 0] 56) = w2 := ⟨_, rfl⟩
  have hv : w2.heap[w.heap.size]? = some (vRow 0 (.slice none 0 0) (.slice none 0 0)) := by rw [← hw2, Lib.alloc_old _ _ _ (by simp)]; exact heap_alloc_new w _
  obtain ⟨R, hR⟩ : ∃ R, w.heap.size + 1 = R := ⟨_, rfl⟩
  have hr2 : w2.heap[R]? = some (rdRow s 0 0 0) := by
    have := heap_alloc_new (w.alloc (.cells #[.int .u8 0, .bool false, .int .i64 0, .string ⟨#[]⟩, .slice none 0 0, .slice none 0 0] 25)) (.cells #[.string s, .int .i64 0, .int .i64 0, .int .i64 0] 56)
    rw [show (w.alloc (.cells #[.int .u8 0, .bool false, .int .i64 0, .string ⟨#[]⟩, .slice none 0 0, .slice none 0 0] 25)).heap.size = R by rw [← hR]; simp] at this
    rw [← hw2]; exact this
  have hb : Below w.heap.size w w2 := by rw [← hw2]; exact ((Below.refl _ w).alloc (Nat.le_refl _) _).alloc (by simp) _
  have HR2 : Hid (Rdr w2 R s 0 0 0 w2) := ⟨⟨rfl, rfl, rfl, Nat.le_refl _, fun _ _ _ => rfl⟩, hr2, Go.lt_of_block hr2⟩
  rw [hw2, hR]
  have HV2 := hid hv
  have HB2 := hid hb
  have hRn : R ≠ w.heap.size := by omega
  have HRN := hid hRn
  have HRE := hid hR
  have cV := value_any (G := w.heap.size) (by omega) (by omega) 16 0 rfl 0 w2 HR2.out (Nat.zero_le _) (HG.out.keep hb)
  clear hw2 hv hr2 hb hR hRn
  go_wp2_with fail
  refine cV.mono ?_
  intro e w3 hen
  clear cV
  rcases hen with ⟨y, v, r, cs, hx, hlo, rfl, hh, hr⟩ | ⟨n, er, q, cs, hx, hq, rfl, hsh, hr⟩
  · have hrst := val_rest hx
    have HX := hid hx
    have HLO := hid hlo
    have HH := hid hh
    have HR3 := hid hr
    obtain ⟨k', b', n', s', a1, l1, c1, a2, l2, c2, rfl⟩ := Shape.of hh
    obtain ⟨qq, hqe⟩ : ∃ qq, s.size - r.length = qq := ⟨_, rfl⟩
    obtain ⟨er0, hee⟩ : ∃ er0 : Int, er0 = 0 := ⟨_, rfl⟩
    obtain ⟨xx0, hxe⟩ : ∃ xx0 : Int, xx0 = 0 := ⟨_, rfl⟩
    rw [hqe] at hrst HR3
    have hqq : qq ≤ s.size := hrst.2
    rw [show Rdr w2 R s qq 0 0 w3 = Rdr w2 R s qq er0 xx0 w3 by rw [hee, hxe]] at HR3
    have HRS := hid hrst.1
    clear hx hlo hh hr hqe hrst
    have HV3 : Hid (w3.heap[w.heap.size]? = some (vRow 0 (.slice none 0 0) (.slice none 0 0))) := by show _ = _; rw [HR3.out.g.block _ (Go.lt_of_block HV2.out) (fun e => HRN.out (Option.some.inj e).symm)]; exact HV2.out
    have HB3 : Hid (Below w.heap.size w w3) := ⟨HR3.out.g.os.trans HB2.out.os, HR3.out.g.tape.trans HB2.out.tape, HR3.out.g.output.trans HB2.out.output, Nat.le_trans HB2.out.size HR3.out.g.size, fun k hk => by rw [HR3.out.g.block k (Nat.lt_of_lt_of_le hk HB2.out.size) (fun e => by have := Option.some.inj e; have := HRE.out; omega)]; exact HB2.out.block k hk⟩
    go_upto_region 5 with fail
    obtain ⟨w4, hw4⟩ : ∃ w4, w3.alloc (.cells #[.int .u8 k', .bool b', .int .i64 n', .string s', .slice a1 l1 c1, .slice a2 l2 c2] 25) = w4 := ⟨_, rfl⟩
    obtain ⟨X, hX⟩ : ∃ X, w3.heap.size = X := ⟨_, rfl⟩
    have HX4 : Hid (w4.heap[X]? = some (.cells #[.int .u8 k', .bool b', .int .i64 n', .string s', .slice a1 l1 c1, .slice a2 l2 c2] 25 (0, 0))) := by show _ = _; rw [← hw4, ← hX]; exact heap_alloc_new w3 _
    have HR4 : Hid (Rdr w2 R s qq er0 xx0 w4) := by show Rdr _ _ _ _ _ _ _; rw [← hw4]; exact HR3.out.alloc _
    have HB34 : Hid (Below w3.heap.size w3 w4) := by show Below _ _ _; rw [← hw4]; exact (Below.refl _ w3).alloc (Nat.le_refl _) _
    rw [hw4, hX]
    have HXE := hid hX
    clear hw4 hX
    have cN := next_any HR4.out.own hqq (by omega)
    go_wp2_with fail
    refine cN.mono ?_
    rintro e w5 ⟨rfl, hr5⟩
    clear cN
    have HR5 := hid (HR4.out.trans hr5)
    have HG5 := hid hr5.g
    obtain ⟨q5, hq5⟩ : ∃ q5, J.nextP s qq = q5 := ⟨_, rfl⟩
    have HQ5 := hid hq5
    rw [hq5] at HR5
    clear hr5 hq5
    have HV5 : Hid (w5.heap[w.heap.size]? = some (vRow 0 (.slice none 0 0) (.slice none 0 0))) := by show _ = _; rw [HG5.out.block _ (Nat.lt_of_lt_of_le (Go.lt_of_block HV3.out) HB34.out.size) (fun e => HRN.out (Option.some.inj e).symm), HB34.out.block _ (Go.lt_of_block HV3.out)]; exact HV3.out
    have HX5 : Hid (w5.heap[X]? = some (.cells #[.int .u8 k', .bool b', .int .i64 n', .string s', .slice a1 l1 c1, .slice a2 l2 c2] 25 (0, 0))) := by show _ = _; rw [HG5.out.block _ (Go.lt_of_block HX4.out) (fun e => by have h1 := Option.some.inj e; have h2 := Go.lt_of_block HR3.out.r; have h3 := HXE.out; omega)]; exact HX4.out
    have HB5 : Hid (Below w.heap.size w w5) := by
      show Below _ _ _
      refine (HB3.out.trans (Below.mono HB34.out HB3.out.size)).trans ⟨HG5.out.os, HG5.out.tape, HG5.out.output, HG5.out.size, fun k hk => HG5.out.block k (by have := HB3.out.size; have := HB34.out.size; omega) (fun e => by have h1 := Option.some.inj e; have h2 := HRE.out; omega)⟩
    subst hee hxe
    have hsk : J.skip r = s.data.toList.drop q5 := by rw [HRS.out, ← HQ5.out, J.nextP_drop]
    have HSK := hid hsk
    clear hsk
    obtain ⟨d0, d1, d2, d3⟩ := HR5.out.cells
    by_cases hlt : q5 < s.size
    · have t2 : decide ((q5 : Int) < (s.size : Int)) = true := decide_eq_true (by omega)
      go_wp2_with fail
      refine (bad_own HR5.out).mono ?_
      rintro e w6 ⟨rfl, hr6, hg6⟩
      have HR6 := hid hr6
      have HG6 := hid hg6
      clear hr6 hg6 d0 d1 d2 d3
      have HV6 : Hid (w6.heap[w.heap.size]? = some (vRow 0 (.slice none 0 0) (.slice none 0 0))) := by show _ = _; rw [HG6.out.block _ (Go.lt_of_block HV5.out) (fun e => HRN.out (Option.some.inj e).symm)]; exact HV5.out
      have HB6 : Hid (Below w.heap.size w w6) := by
        show Below _ _ _
        exact HB5.out.trans ⟨HG6.out.os, HG6.out.tape, HG6.out.output, HG6.out.size, fun k hk => HG6.out.block k (by have := HB5.out.size; omega) (fun e => by have h1 := Option.some.inj e; have h2 := HRE.out; omega)⟩
      obtain ⟨d0, d1, d2, d3⟩ := HR6.out.cells
      go_upto_region 9 with fail
      obtain ⟨v0, v1, v2, v3, v4, v5⟩ := vcells (k := 0) HV6.out
      obtain ⟨f0, f1, f2, f3, f4, f5⟩ := vfree HV6.out
      refine wp_region_till (S := (fun w' : World => w'.heap[R]? = some (rdRow s q5 4 (q5 : Int)))) 11 (by kernel_rfl) ?_
      have HS := hid (show ((fun w' : World => w'.heap[R]? = some (rdRow s q5 4 (q5 : Int)))) _ from HR6.out.r)
      refine wpTill_any 0 (oi := ?oi13) (v := ?v13) ?ho13 (by kernel_rfl) (by kernel_rfl) (by kernel_rfl) (by kernel_rfl) ?hq13 (Or.inl ⟨?hw13, ?hy13⟩) (fun _ => HS.out) ?rest13
      case ho13 => simp only [List.getElem?_toArray, List.getElem?_cons_zero]; rfl
      case hw13 => rfl
      case hy13 => intro w; go_simp; try with_reducible rfl
      case hq13 => exact fun _ _ _ h => h
      try simp only [Act.put, List.setIfInBounds_toArray, List.set_cons_zero, List.set_cons_succ]
      refine wpTill_any 1 (oi := ?oi14) (v := ?v14) ?ho14 (by kernel_rfl) (by kernel_rfl) (by kernel_rfl) (by kernel_rfl) ?hq14 (Or.inl ⟨?hw14, ?hy14⟩) (fun _ => HS.out) ?rest14
      case ho14 => simp only [List.getElem?_toArray, List.getElem?_cons_succ, List.getElem?_cons_zero]; rfl
      case hw14 => rfl
      case hy14 => intro w; go_simp; try with_reducible rfl
      case hq14 => exact fun _ _ _ h => h
      try simp only [Act.put, List.setIfInBounds_toArray, List.set_cons_zero, List.set_cons_succ]
      refine wpTill_any 2 (oi := ?oi15) (v := ?v15) ?ho15 (by kernel_rfl) (by kernel_rfl) (by kernel_rfl) (by kernel_rfl) ?hq15 (Or.inl ⟨?hw15, ?hy15⟩) (fun _ => HS.out) ?rest15
      case ho15 => simp only [List.getElem?_toArray, List.getElem?_cons_succ, List.getElem?_cons_zero]; rfl
      case hw15 => rfl
      case hy15 => intro w; go_simp; try with_reducible rfl
      case hq15 => exact fun _ _ _ h => h
      try simp only [Act.put, List.setIfInBounds_toArray, List.set_cons_zero, List.set_cons_succ]
      refine wpTill_any 3 (oi := ?oi16) (v := ?v16) ?ho16 (by kernel_rfl) (by kernel_rfl) (by kernel_rfl) (by kernel_rfl) ?hq16 (Or.inl ⟨?hw16, ?hy16⟩) (fun _ => HS.out) ?rest16
      case ho16 => simp only [List.getElem?_toArray, List.getElem?_cons_succ, List.getElem?_cons_zero]; rfl
      case hw16 => rfl
      case hy16 => intro w; go_simp; try with_reducible rfl
      case hq16 => exact fun _ _ _ h => h
      try simp only [Act.put, List.setIfInBounds_toArray, List.set_cons_zero, List.set_cons_succ]
      refine wpTill_any 5 (oi := ?oi17) (v := ?v17) ?ho17 (by kernel_rfl) (by kernel_rfl) (by kernel_rfl) (by kernel_rfl) ?hq17 (Or.inl ⟨?hw17, ?hy17⟩) (fun _ => HS.out) ?rest17
      case ho17 => simp only [List.getElem?_toArray, List.getElem?_cons_succ, List.getElem?_cons_zero]; rfl
      case hw17 => rfl
      case hy17 => intro w; go_simp; try with_reducible rfl
      case hq17 => exact fun _ _ _ h => h
      try simp only [Act.put, List.setIfInBounds_toArray, List.set_cons_zero, List.set_cons_succ]
      refine wpTill_any 6 (oi := ?oi18) (v := ?v18) ?ho18 (by kernel_rfl) (by kernel_rfl) (by kernel_rfl) (by kernel_rfl) ?hq18 (Or.inl ⟨?hw18, ?hy18⟩) (fun _ => HS.out) ?rest18
      case ho18 => simp only [List.getElem?_toArray, List.getElem?_cons_succ, List.getElem?_cons_zero]; rfl
      case hw18 => rfl
      case hy18 => intro w; go_simp; try with_reducible rfl
      case hq18 => exact fun _ _ _ h => h
      try simp only [Act.put, List.setIfInBounds_toArray, List.set_cons_zero, List.set_cons_succ]
      refine wpTill_any 7 (oi := ?oi19) (v := ?v19) ?ho19 (by kernel_rfl) (by kernel_rfl) (by kernel_rfl) (by kernel_rfl) ?hq19 (Or.inl ⟨?hw19, ?hy19⟩) (fun _ => HS.out) ?rest19
      case ho19 => simp only [List.getElem?_toArray, List.getElem?_cons_succ, List.getElem?_cons_zero]; rfl
      case hw19 => rfl
      case hy19 => intro w; go_simp; try with_reducible rfl
      case hq19 => exact fun _ _ _ h => h
      try simp only [Act.put, List.setIfInBounds_toArray, List.set_cons_zero, List.set_cons_succ]
      refine wpTill_load 4 [4, 11] (oi := ?oi20) (v := ?v20) ?ho20 (by kernel_rfl) (by kernel_rfl) (by kernel_rfl) (by kernel_rfl) ?hq20 (Or.inl ⟨?hw20, ?hy20⟩) HS.out ?rest20
      case ho20 => simp only [List.getElem?_toArray, List.getElem?_cons_succ, List.getElem?_cons_zero]; rfl
      case hw20 => rfl
      case hy20 =>
        intro w hSw
        have c2 : w.cell? ⟨R, 2, none⟩ = some (.int .i64 4) := by rw [Lib.cell_of_heap hSw]; rfl
        have c3 : w.cell? ⟨R, 3, none⟩ = some (.int .i64 q5) := by rw [Lib.cell_of_heap hSw]; rfl
        clear hSw
        go_simp
        try with_reducible rfl
      case hq20 => exact fun _ _ _ h => h
      try simp only [Act.put, List.setIfInBounds_toArray, List.set_cons_zero, List.set_cons_succ]
      refine wpTill_load 8 [8, 11] (oi := ?oi21) (v := ?v21) ?ho21 (by kernel_rfl) (by kernel_rfl) (by kernel_rfl) (by kernel_rfl) ?hq21 (Or.inl ⟨?hw21, ?hy21⟩) HS.out ?rest21
      case ho21 => simp only [List.getElem?_toArray, List.getElem?_cons_succ, List.getElem?_cons_zero]; rfl
      case hw21 => rfl
      case hy21 =>
        intro w hSw
        have c2 : w.cell? ⟨R, 2, none⟩ = some (.int .i64 4) := by rw [Lib.cell_of_heap hSw]; rfl
        have c3 : w.cell? ⟨R, 3, none⟩ = some (.int .i64 q5) := by rw [Lib.cell_of_heap hSw]; rfl
        clear hSw
        go_simp
        try with_reducible rfl
      case hq21 => exact fun _ _ _ h => h
      try simp only [Act.put, List.setIfInBounds_toArray, List.set_cons_zero, List.set_cons_succ]
      refine wpTill_ready (rs := [9]) (by kernel_rfl) (by decide) ?_
      refine AllTill.consH (o := ?oi22) ?ho22 (fun K hK => ?step22) ?more22
      case ho22 => simp only [List.getElem?_toArray, List.getElem?_cons_succ, List.getElem?_cons_zero]; rfl
      case step22 =>
        go_simp
        refine hK.out _ _ (fun _ => ((pt6_otherD _ _ _ _ _ _ _ _ _ HRN.out).trans HR6.out.r)) (fun hHeld => ?_)
        have HS22 := hid (hHeld (by kernel_rfl))
        clear hHeld hK K
        try simp only [Act.put, List.setIfInBounds_toArray, List.set_cons_zero, List.set_cons_succ]
        refine wpTill_any 10 (oi := ?oi23) (v := ?v23) ?ho23 (by kernel_rfl) (by kernel_rfl) (by kernel_rfl) (by kernel_rfl) ?hq23 (Or.inl ⟨?hw23, ?hy23⟩) (fun _ => HS22.out) ?rest23
        case ho23 => simp only [List.getElem?_toArray, List.getElem?_cons_succ, List.getElem?_cons_zero]; rfl
        case hw23 => rfl
        case hy23 => intro w; go_simp; try with_reducible rfl
        case hq23 => exact fun _ _ _ h => h
        try simp only [Act.put, List.setIfInBounds_toArray, List.set_cons_zero, List.set_cons_succ]
        refine wpTill_ready (rs := [11]) (by kernel_rfl) (by decide) ?_
        refine AllTill.consH (o := ?oi24) ?ho24 (fun K hK => ?step24) ?more24
        case ho24 => simp only [List.getElem?_toArray, List.getElem?_cons_succ, List.getElem?_cons_zero]; rfl
        case step24 =>
          go_simp
          refine hK.out _ _ (fun hk => by cases (show true = false from hk)) (fun _ => ?_)
          clear hK K
          try simp only [Act.put, List.setIfInBounds_toArray, List.set_cons_zero, List.set_cons_succ]
          refine wpTill_done (by kernel_rfl) ?_ _
          go_wp2_with fail
          exact bodyPost_ret (v := .tuple #[.agg #[.int .u8 0, .bool false, .int .i64 0, .string ⟨#[]⟩, .slice none 0 0, .slice none 0 0], .int .i64 q5, .int .i64 4]) (results_triple rfl _ _ w.heap.size 25 #[.int .u8 0, .bool false, .int .i64 0, .string ⟨#[]⟩, .slice none 0 0, .slice none 0 0] (0, 0) _ (.int .i64 q5) (.int .i64 4) rfl (pt6_rowD HV6.out _ _ _ _ _ _) rfl rfl Tryz.underlying25 rfl infoJSON) rfl ((by rw [← HRES.out, parse_rest HS0.out HX.out hlt HSK.out]; exact parse_zero (x := (J.V.zero, (q5 : Int), 4)) rfl (pt6_belowD HB6.out (Nat.le_refl _) _ _ _ _ _ _)))
        case more24 =>
          exact AllTill.nil
      case more22 =>
        exact AllTill.nil
    · have t2 : decide ((q5 : Int) < (s.size : Int)) = false := decide_eq_false (by omega)
      obtain ⟨v0, v1, v2, v3, v4, v5⟩ := vcells (k := 0) HV5.out
      obtain ⟨f0, f1, f2, f3, f4, f5⟩ := vfree HV5.out
      obtain ⟨x0, x1, x2, x3, x4, x5⟩ := x6_of HX5.out
      go_wp2_with fail
      exact bodyPost_ret (v := .tuple #[.agg #[.int .u8 k', .bool b', .int .i64 n', .string s', .slice a1 l1 c1, .slice a2 l2 c2], .int .i64 0, .int .i64 0]) (results_triple rfl _ _ w.heap.size 25 #[.int .u8 k', .bool b', .int .i64 n', .string s', .slice a1 l1 c1, .slice a2 l2 c2] (0, 0) _ (.int .i64 0) (.int .i64 0) rfl (pt6_row HV5.out _ _ _ _ _ _) rfl rfl Tryz.underlying25 rfl infoJSON) rfl ((by rw [← HRES.out, parse_ok HS0.out HX.out (by rw [HSK.out]; exact drop_end (by omega))]; exact parse_value HLO.out HH.out HR3.out.g HB34.out HG5.out HB2.out HB5.out HR3.out.lt (Go.lt_of_block HV2.out)))
  · have HX := hid hx
    have HR3 := hid hr
    obtain ⟨k', b', n', s', a1, l1, c1, a2, l2, c2, rfl⟩ := hsh
    obtain ⟨qq, hqe⟩ : ∃ qq, q = qq := ⟨_, rfl⟩
    obtain ⟨er0, hee⟩ : ∃ er0, er = er0 := ⟨_, rfl⟩
    obtain ⟨xx0, hxe⟩ : ∃ xx0, ((s.size - n : Nat) : Int) = xx0 := ⟨_, rfl⟩
    have hqq : qq ≤ s.size := by omega
    have hne : er0 ≠ 0 := by rw [← hee]; exact ((J.fair_steps (J.val_fair 16 _)).2 n er hx).2
    rw [hqe, hee, hxe] at HR3
    have HXX := hid (show er = er0 ∧ _ = xx0 from ⟨hee, hxe⟩)
    clear hx hr hqe hee hxe hq
    have HV3 : Hid (w3.heap[w.heap.size]? = some (vRow 0 (.slice none 0 0) (.slice none 0 0))) := by show _ = _; rw [HR3.out.g.block _ (Go.lt_of_block HV2.out) (fun e => HRN.out (Option.some.inj e).symm)]; exact HV2.out
    have HB3 : Hid (Below w.heap.size w w3) := ⟨HR3.out.g.os.trans HB2.out.os, HR3.out.g.tape.trans HB2.out.tape, HR3.out.g.output.trans HB2.out.output, Nat.le_trans HB2.out.size HR3.out.g.size, fun k hk => by rw [HR3.out.g.block k (Nat.lt_of_lt_of_le hk HB2.out.size) (fun e => by have := Option.some.inj e; have := HRE.out; omega)]; exact HB2.out.block k hk⟩
    go_upto_region 5 with fail
    obtain ⟨w4, hw4⟩ : ∃ w4, w3.alloc (.cells #[.int .u8 k', .bool b', .int .i64 n', .string s', .slice a1 l1 c1, .slice a2 l2 c2] 25) = w4 := ⟨_, rfl⟩
    obtain ⟨X, hX⟩ : ∃ X, w3.heap.size = X := ⟨_, rfl⟩
    have HX4 : Hid (w4.heap[X]? = some (.cells #[.int .u8 k', .bool b', .int .i64 n', .string s', .slice a1 l1 c1, .slice a2 l2 c2] 25 (0, 0))) := by show _ = _; rw [← hw4, ← hX]; exact heap_alloc_new w3 _
    have HR4 : Hid (Rdr w2 R s qq er0 xx0 w4) := by show Rdr _ _ _ _ _ _ _; rw [← hw4]; exact HR3.out.alloc _
    have HB34 : Hid (Below w3.heap.size w3 w4) := by show Below _ _ _; rw [← hw4]; exact (Below.refl _ w3).alloc (Nat.le_refl _) _
    rw [hw4, hX]
    have HXE := hid hX
    clear hw4 hX
    have cN := next_any HR4.out.own hqq (by omega)
    go_wp2_with fail
    refine cN.mono ?_
    rintro e w5 ⟨rfl, hr5⟩
    clear cN
    have HR5 := hid (HR4.out.trans hr5)
    have HG5 := hid hr5.g
    obtain ⟨q5, hq5⟩ : ∃ q5, J.nextP s qq = q5 := ⟨_, rfl⟩
    have HQ5 := hid hq5
    rw [hq5] at HR5
    clear hr5 hq5
    have HV5 : Hid (w5.heap[w.heap.size]? = some (vRow 0 (.slice none 0 0) (.slice none 0 0))) := by show _ = _; rw [HG5.out.block _ (Nat.lt_of_lt_of_le (Go.lt_of_block HV3.out) HB34.out.size) (fun e => HRN.out (Option.some.inj e).symm), HB34.out.block _ (Go.lt_of_block HV3.out)]; exact HV3.out
    have HX5 : Hid (w5.heap[X]? = some (.cells #[.int .u8 k', .bool b', .int .i64 n', .string s', .slice a1 l1 c1, .slice a2 l2 c2] 25 (0, 0))) := by show _ = _; rw [HG5.out.block _ (Go.lt_of_block HX4.out) (fun e => by have h1 := Option.some.inj e; have h2 := Go.lt_of_block HR3.out.r; have h3 := HXE.out; omega)]; exact HX4.out
    have HB5 : Hid (Below w.heap.size w w5) := by
      show Below _ _ _
      refine (HB3.out.trans (Below.mono HB34.out HB3.out.size)).trans ⟨HG5.out.os, HG5.out.tape, HG5.out.output, HG5.out.size, fun k hk => HG5.out.block k (by have := HB3.out.size; have := HB34.out.size; omega) (fun e => by have h1 := Option.some.inj e; have h2 := HRE.out; omega)⟩
    have t1 : (er0 != 0) = true := by rw [bne_iff_ne]; exact hne
    obtain ⟨d0, d1, d2, d3⟩ := HR5.out.cells
    clear hne
    go_upto_region 9 with fail
    obtain ⟨v0, v1, v2, v3, v4, v5⟩ := vcells (k := 0) HV5.out
    obtain ⟨f0, f1, f2, f3, f4, f5⟩ := vfree HV5.out
    refine wp_region_till (S := (fun w' : World => w'.heap[R]? = some (rdRow s q5 er0 xx0))) 11 (by kernel_rfl) ?_
    have HS := hid (show ((fun w' : World => w'.heap[R]? = some (rdRow s q5 er0 xx0))) _ from HR5.out.r)
    refine wpTill_any 0 (oi := ?oi1) (v := ?v1) ?ho1 (by kernel_rfl) (by kernel_rfl) (by kernel_rfl) (by kernel_rfl) ?hq1 (Or.inl ⟨?hw1, ?hy1⟩) (fun _ => HS.out) ?rest1
    case ho1 => simp only [List.getElem?_toArray, List.getElem?_cons_zero]; rfl
    case hw1 => rfl
    case hy1 => intro w; go_simp; try with_reducible rfl
    case hq1 => exact fun _ _ _ h => h
    try simp only [Act.put, List.setIfInBounds_toArray, List.set_cons_zero, List.set_cons_succ]
    refine wpTill_any 1 (oi := ?oi2) (v := ?v2) ?ho2 (by kernel_rfl) (by kernel_rfl) (by kernel_rfl) (by kernel_rfl) ?hq2 (Or.inl ⟨?hw2, ?hy2⟩) (fun _ => HS.out) ?rest2
    case ho2 => simp only [List.getElem?_toArray, List.getElem?_cons_succ, List.getElem?_cons_zero]; rfl
    case hw2 => rfl
    case hy2 => intro w; go_simp; try with_reducible rfl
    case hq2 => exact fun _ _ _ h => h
    try simp only [Act.put, List.setIfInBounds_toArray, List.set_cons_zero, List.set_cons_succ]
    refine wpTill_any 2 (oi := ?oi3) (v := ?v3) ?ho3 (by kernel_rfl) (by kernel_rfl) (by kernel_rfl) (by kernel_rfl) ?hq3 (Or.inl ⟨?hw3, ?hy3⟩) (fun _ => HS.out) ?rest3
    case ho3 => simp only [List.getElem?_toArray, List.getElem?_cons_succ, List.getElem?_cons_zero]; rfl
    case hw3 => rfl
    case hy3 => intro w; go_simp; try with_reducible rfl
    case hq3 => exact fun _ _ _ h => h
    try simp only [Act.put, List.setIfInBounds_toArray, List.set_cons_zero, List.set_cons_succ]
    refine wpTill_any 3 (oi := ?oi4) (v := ?v4) ?ho4 (by kernel_rfl) (by kernel_rfl) (by kernel_rfl) (by kernel_rfl) ?hq4 (Or.inl ⟨?hw4, ?hy4⟩) (fun _ => HS.out) ?rest4
    case ho4 => simp only [List.getElem?_toArray, List.getElem?_cons_succ, List.getElem?_cons_zero]; rfl
    case hw4 => rfl
    case hy4 => intro w; go_simp; try with_reducible rfl
    case hq4 => exact fun _ _ _ h => h
    try simp only [Act.put, List.setIfInBounds_toArray, List.set_cons_zero, List.set_cons_succ]
    refine wpTill_any 5 (oi := ?oi5) (v := ?v5) ?ho5 (by kernel_rfl) (by kernel_rfl) (by kernel_rfl) (by kernel_rfl) ?hq5 (Or.inl ⟨?hw5, ?hy5⟩) (fun _ => HS.out) ?rest5
    case ho5 => simp only [List.getElem?_toArray, List.getElem?_cons_succ, List.getElem?_cons_zero]; rfl
    case hw5 => rfl
    case hy5 => intro w; go_simp; try with_reducible rfl
    case hq5 => exact fun _ _ _ h => h
    try simp only [Act.put, List.setIfInBounds_toArray, List.set_cons_zero, List.set_cons_succ]
    refine wpTill_any 6 (oi := ?oi6) (v := ?v6) ?ho6 (by kernel_rfl) (by kernel_rfl) (by kernel_rfl) (by kernel_rfl) ?hq6 (Or.inl ⟨?hw6, ?hy6⟩) (fun _ => HS.out) ?rest6
    case ho6 => simp only [List.getElem?_toArray, List.getElem?_cons_succ, List.getElem?_cons_zero]; rfl
    case hw6 => rfl
    case hy6 => intro w; go_simp; try with_reducible rfl
    case hq6 => exact fun _ _ _ h => h
    try simp only [Act.put, List.setIfInBounds_toArray, List.set_cons_zero, List.set_cons_succ]
    refine wpTill_any 7 (oi := ?oi7) (v := ?v7) ?ho7 (by kernel_rfl) (by kernel_rfl) (by kernel_rfl) (by kernel_rfl) ?hq7 (Or.inl ⟨?hw7, ?hy7⟩) (fun _ => HS.out) ?rest7
    case ho7 => simp only [List.getElem?_toArray, List.getElem?_cons_succ, List.getElem?_cons_zero]; rfl
    case hw7 => rfl
    case hy7 => intro w; go_simp; try with_reducible rfl
    case hq7 => exact fun _ _ _ h => h
    try simp only [Act.put, List.setIfInBounds_toArray, List.set_cons_zero, List.set_cons_succ]
    refine wpTill_load 4 [4, 11] (oi := ?oi8) (v := ?v8) ?ho8 (by kernel_rfl) (by kernel_rfl) (by kernel_rfl) (by kernel_rfl) ?hq8 (Or.inl ⟨?hw8, ?hy8⟩) HS.out ?rest8
    case ho8 => simp only [List.getElem?_toArray, List.getElem?_cons_succ, List.getElem?_cons_zero]; rfl
    case hw8 => rfl
    case hy8 =>
      intro w hSw
      have c2 : w.cell? ⟨R, 2, none⟩ = some (.int .i64 er0) := by rw [Lib.cell_of_heap hSw]; rfl
      have c3 : w.cell? ⟨R, 3, none⟩ = some (.int .i64 xx0) := by rw [Lib.cell_of_heap hSw]; rfl
      clear hSw
      go_simp
      try with_reducible rfl
    case hq8 => exact fun _ _ _ h => h
    try simp only [Act.put, List.setIfInBounds_toArray, List.set_cons_zero, List.set_cons_succ]
    refine wpTill_load 8 [8, 11] (oi := ?oi9) (v := ?v9) ?ho9 (by kernel_rfl) (by kernel_rfl) (by kernel_rfl) (by kernel_rfl) ?hq9 (Or.inl ⟨?hw9, ?hy9⟩) HS.out ?rest9
    case ho9 => simp only [List.getElem?_toArray, List.getElem?_cons_succ, List.getElem?_cons_zero]; rfl
    case hw9 => rfl
    case hy9 =>
      intro w hSw
      have c2 : w.cell? ⟨R, 2, none⟩ = some (.int .i64 er0) := by rw [Lib.cell_of_heap hSw]; rfl
      have c3 : w.cell? ⟨R, 3, none⟩ = some (.int .i64 xx0) := by rw [Lib.cell_of_heap hSw]; rfl
      clear hSw
      go_simp
      try with_reducible rfl
    case hq9 => exact fun _ _ _ h => h
    try simp only [Act.put, List.setIfInBounds_toArray, List.set_cons_zero, List.set_cons_succ]
    refine wpTill_ready (rs := [9]) (by kernel_rfl) (by decide) ?_
    refine AllTill.consH (o := ?oi10) ?ho10 (fun K hK => ?step10) ?more10
    case ho10 => simp only [List.getElem?_toArray, List.getElem?_cons_succ, List.getElem?_cons_zero]; rfl
    case step10 =>
      go_simp
      refine hK.out _ _ (fun _ => ((pt6_otherD _ _ _ _ _ _ _ _ _ HRN.out).trans HR5.out.r)) (fun hHeld => ?_)
      have HS10 := hid (hHeld (by kernel_rfl))
      clear hHeld hK K
      try simp only [Act.put, List.setIfInBounds_toArray, List.set_cons_zero, List.set_cons_succ]
      refine wpTill_any 10 (oi := ?oi11) (v := ?v11) ?ho11 (by kernel_rfl) (by kernel_rfl) (by kernel_rfl) (by kernel_rfl) ?hq11 (Or.inl ⟨?hw11, ?hy11⟩) (fun _ => HS10.out) ?rest11
      case ho11 => simp only [List.getElem?_toArray, List.getElem?_cons_succ, List.getElem?_cons_zero]; rfl
      case hw11 => rfl
      case hy11 => intro w; go_simp; try with_reducible rfl
      case hq11 => exact fun _ _ _ h => h
      try simp only [Act.put, List.setIfInBounds_toArray, List.set_cons_zero, List.set_cons_succ]
      refine wpTill_ready (rs := [11]) (by kernel_rfl) (by decide) ?_
      refine AllTill.consH (o := ?oi12) ?ho12 (fun K hK => ?step12) ?more12
      case ho12 => simp only [List.getElem?_toArray, List.getElem?_cons_succ, List.getElem?_cons_zero]; rfl
      case step12 =>
        go_simp
        refine hK.out _ _ (fun hk => by cases (show true = false from hk)) (fun _ => ?_)
        clear hK K
        try simp only [Act.put, List.setIfInBounds_toArray, List.set_cons_zero, List.set_cons_succ]
        refine wpTill_done (by kernel_rfl) ?_ _
        go_wp2_with fail
        exact bodyPost_ret (v := .tuple #[.agg #[.int .u8 0, .bool false, .int .i64 0, .string ⟨#[]⟩, .slice none 0 0, .slice none 0 0], .int .i64 xx0, .int .i64 er0]) (results_triple rfl _ _ w.heap.size 25 #[.int .u8 0, .bool false, .int .i64 0, .string ⟨#[]⟩, .slice none 0 0, .slice none 0 0] (0, 0) _ (.int .i64 xx0) (.int .i64 er0) rfl (pt6_rowD HV5.out _ _ _ _ _ _) rfl rfl Tryz.underlying25 rfl infoJSON) rfl ((by rw [← HRES.out, parse_err HS0.out HX.out, HXX.out.1, HXX.out.2]; exact parse_zero (x := (J.V.zero, xx0, er0)) rfl (pt6_belowD HB5.out (Nat.le_refl _) _ _ _ _ _ _)))
      case more12 =>
        exact AllTill.nil
    case more10 =>
      exact AllTill.nil
theorem parse_any (s : ByteArray) (w : World) (hE : Errs w) (hT : Tabs w) : Calls Tryz.prog 8 #[.string s] w (ParseOf w (J.parse s.data.toList)) := by
  by_cases h : 65536 < s.size
  · exact parse_big h w
  · exact parse_small h w hE hT
end Go.Proofs.YtphjfighamadgaaGreatDoor
