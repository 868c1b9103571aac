/- What is deferred in Parse: of a frame that returns; of a frame that leaves off by a failure. -/
import Derived.Test.YtakplnceiibmlaaGreatDoorMElem
import Derived.Defers
import Derived.Recover
import Derived.Laws.Pointers
namespace Go.Proofs.YtakplnceiibmlaaGreatDoor
open Go.RowKit
open Go.Lib (hid)
theorem element_any (G R : Nat) (s : ByteArray) (hs6 : s.size ≤ 65536) (hGR : G ≤ R) : ∀ d deep, d + deep = 16 → ElemC G R s d deep
  | 0, deep, h => by
    obtain rfl : deep = 16 := by omega
    exact elem_end R s G
  | d + 1, deep, h => elem_step hs6 hGR (element_any G R s hs6 hGR d (deep + 1) (by omega)) (by omega)
theorem catch_tmps (H : Nat) : (#[.pointer (some ⟨H, 0, none⟩), .pointer (some ⟨H + 1, 0, none⟩), .pointer (some ⟨H + 2, 0, none⟩), .pointer (some ⟨H + 3, 0, none⟩)] : Array Value) ++ Array.replicate (Tryz.f16.ntmps - (#[.pointer (some ⟨H, 0, none⟩), .pointer (some ⟨H + 1, 0, none⟩), .pointer (some ⟨H + 2, 0, none⟩), .pointer (some ⟨H + 3, 0, none⟩)] : Array Value).size) undef = #[.pointer (some ⟨H, 0, none⟩), .pointer (some ⟨H + 1, 0, none⟩), .pointer (some ⟨H + 2, 0, none⟩), .pointer (some ⟨H + 3, 0, none⟩), undef, undef, undef, undef, undef, undef, undef, undef, undef, undef, undef, undef, undef, undef, undef, undef] := by kernel_rfl
set_option maxRecDepth 100000 in
set_option maxHeartbeats 1000000 in
theorem catch_idle (H : Nat) (W : World) :
    CallsD Tryz.prog 16 #[.pointer (some ⟨H, 0, none⟩), .pointer (some ⟨H + 1, 0, none⟩), .pointer (some ⟨H + 2, 0, none⟩), .pointer (some ⟨H + 3, 0, none⟩)] .returning W fun e u' w' => e = .returned (.tuple #[]) ∧ u' = .returning ∧ w' = W := by
  refine callsD_of_wpS Tryz.func16 rfl fun c₀ cs hu => ?_
  rw [catch_tmps]
  apply wpS_seq
  generalize hK : Exit.thenS _ _ = K
  apply wpS_region
  simp [wpOpsS, go_sem, recoverD, hu]
  rw [← hK]
  simp only [Exit.thenS]
  refine wpS_of_wp ?_
  clear hK K
  go_wp2_with fail
  refine ⟨rfl, .returning, ?_, .tuple #[], by simp [results, Tryz.results16], rfl, rfl, rfl⟩
  cases c₀
  simp only at hu
  subst hu
  rfl
theorem assert_fail (v : Value) (w : World) : (Instr.typeAssert (.iface 52 v) 20 52 true).run Tryz.prog w = .ok (.tuple #[v, .bool true]) w := by
  simp [Instr.typeAssert, run_underlying Tryz.underlying52, go_sem, Result.andThen]
set_option maxRecDepth 100000 in
set_option maxHeartbeats 1000000 in
theorem catch_fail (H a : Nat) (er : Int) (s : ByteArray) (x0 x1 x2 x3 x4 x5 x6 p0 p1 e0 : Value) (W : World) (hb : W.heap[H]? = some (.cells #[.string s] 9 (0, 0))) (hn : W.heap[H + 1]? = some (.cells #[x0, x1, x2, x3, x4, x5, x6] 28 (0, 0))) (hp : W.heap[H + 2]? = some (.cells #[p0, p1] 26 (0, 0))) (he : W.heap[H + 3]? = some (.cells #[e0] 29 (0, 0))) (ha : a ≤ s.size) (hs : s.size ≤ 1000000000000) :
    CallsD Tryz.prog 16 #[.pointer (some ⟨H, 0, none⟩), .pointer (some ⟨H + 1, 0, none⟩), .pointer (some ⟨H + 2, 0, none⟩), .pointer (some ⟨H + 3, 0, none⟩)] (.panicking (chain er (a : Int))) W fun e u' w' => e = .returned (.tuple #[]) ∧ u' = .panicking [{ v := .iface 52 (.agg #[.int .i64 er, .int .i64 a]), recovered := true }] ∧
      w'.heap[H + 1]? = some (nodeRow ⟨#[]⟩ ⟨#[]⟩ (.slice none 0 0) (.slice none 0 0) ⟨#[]⟩ 0 0) ∧ w'.heap[H + 2]? = some (.cells #[.int .i64 (X.lineOf s.data.toList a), .int .i64 (X.colOf s.data.toList a)] 26 (0, 0)) ∧ w'.heap[H + 3]? = some (.cells #[.int .i64 er] 29 (0, 0)) ∧ Below H W w' := by
  refine callsD_of_wpS Tryz.func16 rfl fun c₀ cs hu => ?_
  rw [catch_tmps]
  apply wpS_seq
  generalize hK : Exit.thenS _ _ = K
  apply wpS_region
  unfold chain at hu
  simp [wpOpsS, go_sem, recoverD, hu]
  rw [← hK]
  simp only [Exit.thenS]
  refine wpS_of_wp ?_
  clear hK K
  have hTA := assert_fail (.agg #[.int .i64 er, .int .i64 a])
  obtain ⟨F, hF⟩ : ∃ F, W.heap.size = F := ⟨_, rfl⟩
  obtain ⟨w1, hw1⟩ : ∃ w1, W.alloc (.cells #[.int .i64 er, .int .i64 a] 52) = w1 := ⟨_, rfl⟩
  have HF1 : Hid (w1.heap[F]? = some (.cells #[.int .i64 er, .int .i64 a] 52 (0, 0))) := by show _ = _; rw [← hw1, ← hF]; exact heap_alloc_new W _
  have hb1 : Below W.heap.size W w1 := by rw [← hw1]; exact (Below.refl _ W).alloc (Nat.le_refl _) _
  have HS1 : Hid (w1.heap[H]? = some (.cells #[.string s] 9 (0, 0))) := (hb1.block H (Go.lt_of_block hb)).trans hb
  have HN1 : Hid (w1.heap[H + 1]? = some (.cells #[x0, x1, x2, x3, x4, x5, x6] 28 (0, 0))) := (hb1.block (H + 1) (Go.lt_of_block hn)).trans hn
  have HP1 : Hid (w1.heap[H + 2]? = some (.cells #[p0, p1] 26 (0, 0))) := (hb1.block (H + 2) (Go.lt_of_block hp)).trans hp
  have HE1 : Hid (w1.heap[H + 3]? = some (.cells #[e0] 29 (0, 0))) := (hb1.block (H + 3) (Go.lt_of_block he)).trans he
  have HHF : Hid (H + 3 < F) := by have := Go.lt_of_block he; show _ < _; omega
  have HB1 : Hid (Below H W w1) := hb1.mono (by have := Go.lt_of_block he; omega)
  have HW1 := hid hw1
  have HFE := hid hF
  have HA := hid ha
  clear hw1 hF hb1 hb hn hp he ha
  go_upto_region 7 with fail
  rw [HW1.out, HFE.out]
  clear HW1 HFE
  refine wp_region_till (S := (fun w : World => w.heap[H]? = some (.cells #[.string s] 9 (0, 0)) ∧ w.heap[F]? = some (.cells #[.int .i64 er, .int .i64 a] 52 (0, 0)))) 9 (by kernel_rfl) ?_
  have HS := hid (show ((fun w : World => w.heap[H]? = some (.cells #[.string s] 9 (0, 0)) ∧ w.heap[F]? = some (.cells #[.int .i64 er, .int .i64 a] 52 (0, 0)))) _ from ⟨HS1.out, HF1.out⟩)
  refine wpTill_any 0 (oi := ?oi1) (v := ?v1) ?ho1 (by kernel_rfl) (by kernel_rfl) (by kernel_rfl) (by kernel_rfl) ?hq1 (Or.inl ⟨?hw1, ?hy1⟩) (fun _ => HS.out) ?rest1
  case ho1 => simp only [List.getElem?_toArray, List.getElem?_cons_zero]; rfl
  case hw1 => rfl
  case hy1 => intro w; go_simp; try with_reducible rfl
  case hq1 => exact fun _ _ _ h => h
  try simp only [Act.put, List.setIfInBounds_toArray, List.set_cons_zero, List.set_cons_succ]
  refine wpTill_any 2 (oi := ?oi2) (v := ?v2) ?ho2 (by kernel_rfl) (by kernel_rfl) (by kernel_rfl) (by kernel_rfl) ?hq2 (Or.inl ⟨?hw2, ?hy2⟩) (fun _ => HS.out) ?rest2
  case ho2 => simp only [List.getElem?_toArray, List.getElem?_cons_succ, List.getElem?_cons_zero]; rfl
  case hw2 => rfl
  case hy2 => intro w; go_simp; try with_reducible rfl
  case hq2 => exact fun _ _ _ h => h
  try simp only [Act.put, List.setIfInBounds_toArray, List.set_cons_zero, List.set_cons_succ]
  refine wpTill_any 5 (oi := ?oi3) (v := ?v3) ?ho3 (by kernel_rfl) (by kernel_rfl) (by kernel_rfl) (by kernel_rfl) ?hq3 (Or.inl ⟨?hw3, ?hy3⟩) (fun _ => HS.out) ?rest3
  case ho3 => simp only [List.getElem?_toArray, List.getElem?_cons_succ, List.getElem?_cons_zero]; rfl
  case hw3 => rfl
  case hy3 => intro w; go_simp; try with_reducible rfl
  case hq3 => exact fun _ _ _ h => h
  try simp only [Act.put, List.setIfInBounds_toArray, List.set_cons_zero, List.set_cons_succ]
  refine wpTill_load 1 [1, 9] (oi := ?oi4) (v := ?v4) ?ho4 (by kernel_rfl) (by kernel_rfl) (by kernel_rfl) (by kernel_rfl) ?hq4 (Or.inl ⟨?hw4, ?hy4⟩) HS.out ?rest4
  case ho4 => simp only [List.getElem?_toArray, List.getElem?_cons_succ, List.getElem?_cons_zero]; rfl
  case hw4 => rfl
  case hy4 =>
    intro w hSw
    have hSx := hSw
    obtain ⟨s0, s1⟩ := hSx
    have b0 : w.cell? ⟨H, 0, none⟩ = some (.string s) := rowCell s0 0
    have b1 : w.cell? ⟨F, 0, none⟩ = some (.int .i64 er) := rowCell s1 0
    have b2 : w.cell? ⟨F, 1, none⟩ = some (.int .i64 a) := rowCell s1 1
    clear s0 s1
    clear hSw
    go_simp
    try with_reducible rfl
  case hq4 => exact fun _ _ _ h => h
  try simp only [Act.put, List.setIfInBounds_toArray, List.set_cons_zero, List.set_cons_succ]
  refine wpTill_load 3 [3, 9] (oi := ?oi5) (v := ?v5) ?ho5 (by kernel_rfl) (by kernel_rfl) (by kernel_rfl) (by kernel_rfl) ?hq5 (Or.inl ⟨?hw5, ?hy5⟩) HS.out ?rest5
  case ho5 => simp only [List.getElem?_toArray, List.getElem?_cons_succ, List.getElem?_cons_zero]; rfl
  case hw5 => rfl
  case hy5 =>
    intro w hSw
    have hSx := hSw
    obtain ⟨s0, s1⟩ := hSx
    have b0 : w.cell? ⟨H, 0, none⟩ = some (.string s) := rowCell s0 0
    have b1 : w.cell? ⟨F, 0, none⟩ = some (.int .i64 er) := rowCell s1 0
    have b2 : w.cell? ⟨F, 1, none⟩ = some (.int .i64 a) := rowCell s1 1
    clear s0 s1
    clear hSw
    go_simp
    try with_reducible rfl
  case hq5 => exact fun _ _ _ h => h
  try simp only [Act.put, List.setIfInBounds_toArray, List.set_cons_zero, List.set_cons_succ]
  refine wpTill_load 6 [6, 9] (oi := ?oi6) (v := ?v6) ?ho6 (by kernel_rfl) (by kernel_rfl) (by kernel_rfl) (by kernel_rfl) ?hq6 (Or.inl ⟨?hw6, ?hy6⟩) HS.out ?rest6
  case ho6 => simp only [List.getElem?_toArray, List.getElem?_cons_succ, List.getElem?_cons_zero]; rfl
  case hw6 => rfl
  case hy6 =>
    intro w hSw
    have hSx := hSw
    obtain ⟨s0, s1⟩ := hSx
    have b0 : w.cell? ⟨H, 0, none⟩ = some (.string s) := rowCell s0 0
    have b1 : w.cell? ⟨F, 0, none⟩ = some (.int .i64 er) := rowCell s1 0
    have b2 : w.cell? ⟨F, 1, none⟩ = some (.int .i64 a) := rowCell s1 1
    clear s0 s1
    clear hSw
    go_simp
    try with_reducible rfl
  case hq6 => exact fun _ _ _ h => h
  try simp only [Act.put, List.setIfInBounds_toArray, List.set_cons_zero, List.set_cons_succ]
  refine wpTill_ready (rs := [4]) (by kernel_rfl) (by decide) ?_
  refine AllTill.consH (o := ?oi7) ?ho7 (fun K hK => ?step7) ?more7
  case ho7 => simp only [List.getElem?_toArray, List.getElem?_cons_succ, List.getElem?_cons_zero]; rfl
  case step7 =>
    go_simp
    refine (place_any s a HA.out hs _).mono ?_
    rintro e w2 ⟨rfl, hb2⟩
    unfold posV
    have HS2 : Hid (w2.heap[H]? = some (.cells #[.string s] 9 (0, 0)) ∧ w2.heap[F]? = some (.cells #[.int .i64 er, .int .i64 a] 52 (0, 0))) := ⟨(hb2.block H (Go.lt_of_block HS1.out)).trans HS1.out, (hb2.block F (Go.lt_of_block HF1.out)).trans HF1.out⟩
    have HN2 : Hid (w2.heap[H + 1]? = some (.cells #[x0, x1, x2, x3, x4, x5, x6] 28 (0, 0))) := (hb2.block (H + 1) (Go.lt_of_block HN1.out)).trans HN1.out
    have HP2 : Hid (w2.heap[H + 2]? = some (.cells #[p0, p1] 26 (0, 0))) := (hb2.block (H + 2) (Go.lt_of_block HP1.out)).trans HP1.out
    have HE2 : Hid (w2.heap[H + 3]? = some (.cells #[e0] 29 (0, 0))) := (hb2.block (H + 3) (Go.lt_of_block HE1.out)).trans HE1.out
    have HB2 : Hid (Below H W w2) := HB1.out.drew.trans (hb2.mono (by have := Go.lt_of_block HE1.out; show H ≤ w1.heap.size; omega))
    clear hb2 HN1 HP1 HE1 HF1 HS1 HB1
    try dsimp only
    refine hK.out _ _ (fun _ => HS2.out) (fun hHeld => ?_)
    have HS7 := hid (hHeld (by kernel_rfl))
    clear hHeld hK K
    try simp only [Act.put, List.setIfInBounds_toArray, List.set_cons_zero, List.set_cons_succ]
    refine wpTill_ready (rs := [7]) (by kernel_rfl) (by decide) ?_
    refine AllTill.consH (o := ?oi8) ?ho8 (fun K hK => ?step8) ?more8
    case ho8 => simp only [List.getElem?_toArray, List.getElem?_cons_succ, List.getElem?_cons_zero]; rfl
    case step8 =>
      obtain ⟨y0, y1, y2, y3, y4, y5, y6⟩ := row7 HN2.out
      have f0 := rowFree HN2.out 0
      have f1 := rowFree HN2.out 1
      have f2 := rowFree HN2.out 2
      have f3 := rowFree HN2.out 3
      have f4 := rowFree HN2.out 4
      have f5 := rowFree HN2.out 5
      have f6 := rowFree HN2.out 6
      go_simp
      obtain ⟨w3, hw3⟩ : ∃ w3, (((((((w2.setCell ⟨H + 1, 0, none⟩ (.string ⟨#[]⟩)).setCell ⟨H + 1, 1, none⟩ (.string ⟨#[]⟩)).setCell ⟨H + 1, 2, none⟩ (.slice none 0 0)).setCell ⟨H + 1, 3, none⟩ (.slice none 0 0)).setCell ⟨H + 1, 4, none⟩ (.string ⟨#[]⟩)).setCell ⟨H + 1, 5, none⟩ (.int .i64 0)).setCell ⟨H + 1, 6, none⟩ (.int .i64 0)) = w3 := ⟨_, rfl⟩
      have g3 : w2.grownBy w3 (some (H + 1)) := by rw [← hw3]; exact st7_grown w2 (H + 1) (.string ⟨#[]⟩) (.string ⟨#[]⟩) (.slice none 0 0) (.slice none 0 0) (.string ⟨#[]⟩) (.int .i64 0) (.int .i64 0)
      have hn3 : w3.heap[H + 1]? = some (nodeRow ⟨#[]⟩ ⟨#[]⟩ (.slice none 0 0) (.slice none 0 0) ⟨#[]⟩ 0 0) := by rw [← hw3]; exact st7_row HN2.out (.string ⟨#[]⟩) (.string ⟨#[]⟩) (.slice none 0 0) (.slice none 0 0) (.string ⟨#[]⟩) (.int .i64 0) (.int .i64 0)
      rw [hw3]
      have HS3 : Hid (w3.heap[H]? = some (.cells #[.string s] 9 (0, 0)) ∧ w3.heap[F]? = some (.cells #[.int .i64 er, .int .i64 a] 52 (0, 0))) := ⟨(g3.block H (Go.lt_of_block HS2.out.1) (fun e => by have := Option.some.inj e; omega)).trans HS2.out.1, (g3.block F (Go.lt_of_block HS2.out.2) (fun e => by have := Option.some.inj e; have := HHF.out; omega)).trans HS2.out.2⟩
      have HN3 : Hid (w3.heap[H + 1]? = some (nodeRow ⟨#[]⟩ ⟨#[]⟩ (.slice none 0 0) (.slice none 0 0) ⟨#[]⟩ 0 0)) := hn3
      have HP3 : Hid (w3.heap[H + 2]? = some (.cells #[p0, p1] 26 (0, 0))) := (g3.block (H + 2) (Go.lt_of_block HP2.out) (fun e => by have := Option.some.inj e; omega)).trans HP2.out
      have HE3 : Hid (w3.heap[H + 3]? = some (.cells #[e0] 29 (0, 0))) := (g3.block (H + 3) (Go.lt_of_block HE2.out) (fun e => by have := Option.some.inj e; omega)).trans HE2.out
      have HB3 : Hid (Below H W w3) := HB2.out.grown g3 (by have := HB2.out.size; have := Go.lt_of_block HS2.out.1; omega) (fun k hk => by have := Option.some.inj hk; omega)
      clear hw3 g3 hn3 HN2 HP2 HE2 HS2 HB2 y0 y1 y2 y3 y4 y5 y6 f0 f1 f2 f3 f4 f5 f6
      refine hK.out _ _ (fun _ => HS3.out) (fun hHeld => ?_)
      have HS8 := hid (hHeld (by kernel_rfl))
      clear hHeld hK K
      try simp only [Act.put, List.setIfInBounds_toArray, List.set_cons_zero, List.set_cons_succ]
      refine wpTill_ready (rs := [8]) (by kernel_rfl) (by decide) ?_
      refine AllTill.consH (o := ?oi9) ?ho9 (fun K hK => ?step9) ?more9
      case ho9 => simp only [List.getElem?_toArray, List.getElem?_cons_succ, List.getElem?_cons_zero]; rfl
      case step9 =>
        obtain ⟨y0, y1⟩ := row2 HP3.out
        have f0 := rowFree HP3.out 0
        have f1 := rowFree HP3.out 1
        go_simp
        have g4 : w3.grownBy ((w3.setCell ⟨H + 2, 0, none⟩ (.int .i64 (X.lineOf s.data.toList a))).setCell ⟨H + 2, 1, none⟩ (.int .i64 (X.colOf s.data.toList a))) (some (H + 2)) := (grownBy_set w3 (H + 2) 0 _).trans (grownBy_set _ (H + 2) 1 _)
        have hn4 : ((w3.setCell ⟨H + 2, 0, none⟩ (.int .i64 (X.lineOf s.data.toList a))).setCell ⟨H + 2, 1, none⟩ (.int .i64 (X.colOf s.data.toList a))).heap[H + 2]? = some (.cells #[.int .i64 (X.lineOf s.data.toList a), .int .i64 (X.colOf s.data.toList a)] 26 (0, 0)) := row_set (row_set HP3.out 0 _) 1 _
        obtain ⟨w4, hw4⟩ : ∃ w4, (w3.setCell ⟨H + 2, 0, none⟩ (.int .i64 (X.lineOf s.data.toList a))).setCell ⟨H + 2, 1, none⟩ (.int .i64 (X.colOf s.data.toList a)) = w4 := ⟨_, rfl⟩
        rw [hw4] at g4 hn4 ⊢
        have HS4 : Hid (w4.heap[H]? = some (.cells #[.string s] 9 (0, 0)) ∧ w4.heap[F]? = some (.cells #[.int .i64 er, .int .i64 a] 52 (0, 0))) := ⟨(g4.block H (Go.lt_of_block HS3.out.1) (fun e => by have := Option.some.inj e; omega)).trans HS3.out.1, (g4.block F (Go.lt_of_block HS3.out.2) (fun e => by have := Option.some.inj e; have := HHF.out; omega)).trans HS3.out.2⟩
        have HN4 : Hid (w4.heap[H + 1]? = some (nodeRow ⟨#[]⟩ ⟨#[]⟩ (.slice none 0 0) (.slice none 0 0) ⟨#[]⟩ 0 0)) := (g4.block (H + 1) (Go.lt_of_block HN3.out) (fun e => by have := Option.some.inj e; omega)).trans HN3.out
        have HP4 := hid hn4
        have HE4 : Hid (w4.heap[H + 3]? = some (.cells #[e0] 29 (0, 0))) := (g4.block (H + 3) (Go.lt_of_block HE3.out) (fun e => by have := Option.some.inj e; omega)).trans HE3.out
        have HB4 : Hid (Below H W w4) := HB3.out.grown g4 (by have := HB3.out.size; have := Go.lt_of_block HS3.out.1; omega) (fun k hk => by have := Option.some.inj hk; omega)
        clear hw4 g4 hn4 HN3 HP3 HE3 HS3 HB3 y0 y1 f0 f1
        refine hK.out _ _ (fun _ => HS4.out) (fun hHeld => ?_)
        have HS9 := hid (hHeld (by kernel_rfl))
        clear hHeld hK K
        try simp only [Act.put, List.setIfInBounds_toArray, List.set_cons_zero, List.set_cons_succ]
        refine wpTill_ready (rs := [9]) (by kernel_rfl) (by decide) ?_
        refine AllTill.consH (o := ?oi10) ?ho10 (fun K hK => ?step10) ?more10
        case ho10 => simp only [List.getElem?_toArray, List.getElem?_cons_succ, List.getElem?_cons_zero]; rfl
        case step10 =>
          have y0 := rowCell HE4.out 0
          have f0 := rowFree HE4.out 0
          go_simp
          refine hK.out _ _ (fun hk => by cases (show true = false from hk)) (fun _ => ?_)
          clear hK K
          try simp only [Act.put, List.setIfInBounds_toArray, List.set_cons_zero, List.set_cons_succ]
          refine wpTill_done (by kernel_rfl) ?_ _
          have g5 := grownBy_set w4 (H + 3) 0 (.int .i64 er)
          have hE5 : (w4.setCell ⟨H + 3, 0, none⟩ (.int .i64 er)).heap[H + 3]? = some (.cells #[.int .i64 er] 29 (0, 0)) := row_set HE4.out 0 _
          go_wp2_with fail
          refine ⟨rfl, .panicking [{ v := .iface 52 (.agg #[.int .i64 er, .int .i64 a]), recovered := true }], ?_, .tuple #[], by simp [results, Tryz.results16], rfl, rfl, (g5.block (H + 1) (Go.lt_of_block HN4.out) (fun e => by have := Option.some.inj e; omega)).trans HN4.out, (g5.block (H + 2) (Go.lt_of_block HP4.out) (fun e => by have := Option.some.inj e; omega)).trans HP4.out, hE5, HB4.out.grown g5 (by have := HB4.out.size; have := Go.lt_of_block HS4.out.1; omega) (fun k hk => by have := Option.some.inj hk; omega)⟩
          rfl
        case more10 =>
          exact AllTill.nil
      case more9 =>
        exact AllTill.nil
    case more8 =>
      exact AllTill.nil
  case more7 =>
    exact AllTill.nil
end Go.Proofs.YtakplnceiibmlaaGreatDoor
