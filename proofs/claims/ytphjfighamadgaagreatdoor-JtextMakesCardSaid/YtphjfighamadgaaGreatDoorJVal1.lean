/- value$1: one value more into a list. -/
import Derived.Test.YtphjfighamadgaaGreatDoorJA6
import Derived.Deep.RegionHeld3
import Derived.Deep.RegionWith
import Derived.BigRegion
import Derived.Deep.RegionLaw
import Derived.Deep.AppendLies
namespace Go.Proofs.YtphjfighamadgaaGreatDoor
open Go.RowKit
open Go.Lib (hid)
theorem infoJSON2 : (Tryz.prog.info? 25).map (fun i => (i.zero, i.size, i.bytes)) = some (some (.agg #[.int .u8 0, .bool false, .int .i64 0, .string ⟨#[]⟩, .slice none 0 0, .slice none 0 0]), 6, 80) := by kernel_rfl
/-- what the closure finds: its captured variables, and the list so far -/
def ListInv (w : World) (R deep : Nat) (p : J.T × List ByteArray) (W : World) : Prop :=
  W.heap[w.heap.size]? = some (.cells #[.pointer (some ⟨R, 0, none⟩)] 54 (0, 0)) ∧ W.heap[w.heap.size + 1]? = some (.cells #[.int .i64 deep] 3 (0, 0)) ∧
  p.2 = [] ∧ ∃ t' : J.T, t'.loose p.1 ∧ VSt (w.heap.size + 3) (w.heap.size + 2) 5 t' [] W
theorem keepV {w3 w6 : World} {V B n sz : Nat} {v : Value} {E : TypeId} {cs : List Value} {Z O : Obj} (h : ((w3.alloc Z).drew).grownBy w6 v.ownBlock) (ho : ((w3.alloc Z).drew).ownsRow B E sz v n cs) (hv : V < B ∧ B ≤ w3.heap.size ∧ V < w3.heap.size) (hb : w3.heap[V]? = some O) : w6.heap[V]? = some O := by
  rw [h.block V (by show V < (w3.alloc Z).heap.size; simp; omega) (fun e => by have := (World.ownsRow.lt ho V e.symm).1; omega)]
  show (w3.alloc Z).heap[V]? = _
  rw [Lib.alloc_old w3 _ V hv.2.2]; exact hb
theorem push_facts {w6 : World} {B n g cap : Nat} {E : TypeId} {ts : List Value} (h : w6.ownsRow B E 6 (.slice (some ⟨g, 0, none⟩) (n + 1) cap) (n + 1) (ts ++ zero6)) (hl : ts.length = n * 6) :
    w6.cell? ⟨g, n * 6, none⟩ = some (.int .u8 0) ∧ w6.cell? ⟨g, n * 6 + 1, none⟩ = some (.bool false) ∧ w6.cell? ⟨g, n * 6 + 2, none⟩ = some (.int .i64 0) ∧ w6.cell? ⟨g, n * 6 + 3, none⟩ = some (.string ⟨#[]⟩) ∧ w6.cell? ⟨g, n * 6 + 4, none⟩ = some (.slice none 0 0) ∧ w6.cell? ⟨g, n * 6 + 5, none⟩ = some (.slice none 0 0) ∧
    w6.frozen? ⟨g, n * 6, none⟩ = false ∧ w6.frozen? ⟨g, n * 6 + 1, none⟩ = false ∧ w6.frozen? ⟨g, n * 6 + 2, none⟩ = false ∧ w6.frozen? ⟨g, n * 6 + 3, none⟩ = false ∧ w6.frozen? ⟨g, n * 6 + 4, none⟩ = false ∧ w6.frozen? ⟨g, n * 6 + 5, none⟩ = false ∧ B ≤ g := by
  have hc : ∀ i, i < 6 → w6.cell? ⟨g, n * 6 + i, none⟩ = zero6[i]? := fun i hi => by
    rw [World.ownsRow.cellAt h (n * 6 + i) (by omega), List.getElem?_append_right (by omega), hl]
    congr 1; omega
  exact ⟨hc 0 (by omega), hc 1 (by omega), hc 2 (by omega), hc 3 (by omega), hc 4 (by omega), hc 5 (by omega), World.ownsRow.frozenAt h _, World.ownsRow.frozenAt h _, World.ownsRow.frozenAt h _, World.ownsRow.frozenAt h _, World.ownsRow.frozenAt h _, World.ownsRow.frozenAt h _, (World.ownsRow.lt h g rfl).1⟩
theorem list_end {w W w2 w6 WF : World} {R d deep q n g cap : Nat} {s : ByteArray} {st : J.T × List ByteArray} {t' : J.T} {lv nv : Value} {ts : List Value} {b : Bool} {c0 c1 c2 c3 c4 c5 : Value} {ZX Z : Obj} (hR : Rdr w R s q 0 0 W) (hI : ListInv w R deep st W) (ht : t'.loose st.1)
    (hP : VP (w.heap.size + 3) (w.heap.size + 2) 5 t' [] W lv nv ts) (hn : t'.length = n) (hV : Parts W R s (J.val d (s.data.toList.drop q)) b [c0, c1, c2, c3, c4, c5] w2)
    (hgrow : (((w2.alloc ZX).alloc Z).drew).grownBy w6 lv.ownBlock) (hat : lv.ownBlock = some g ∨ g = (((w2.alloc ZX).alloc Z).drew).heap.size)
    (hown : w6.ownsRow (w.heap.size + 3) 25 6 (.slice (some ⟨g, 0, none⟩) (n + 1) cap) (n + 1) (ts ++ zero6))
    (hWF : WF = (st6 w6 g (n * 6) c0 c1 c2 c3 c4 c5).setCell ⟨w.heap.size + 2, 4, none⟩ (.slice (some ⟨g, 0, none⟩) (n + 1) cap) ∨ WF = st6 (w6.setCell ⟨w.heap.size + 2, 4, none⟩ (.slice (some ⟨g, 0, none⟩) (n + 1) cap)) g (n * 6) c0 c1 c2 c3 c4 c5) :
    OneOf w R s (J.stepL (J.val d) st (s.data.toList.drop q)) (ListInv w R deep) (VBad (w.heap.size + 2)) (.returned (.bool b)) WF := by
  have hRlt := hR.lt
  have hg := hV.g
  have hP2 := hP.kept hg (by omega) (by omega)
  have hlt1 := World.ownsRow.lt hP.l
  have hlt2 := World.ownsRow.lt hP.n
  have hVW := Go.lt_of_block hP.v
  have hs2 := hg.size
  have hsz3 : (((w2.alloc ZX).alloc Z).drew).heap.size = w2.heap.size + 2 := by show ((w2.alloc ZX).alloc Z).heap.size = _; simp
  have hold : ∀ k, k < w2.heap.size → (((w2.alloc ZX).alloc Z).drew).heap[k]? = w2.heap[k]? := fun k hk => by
    show ((w2.alloc ZX).alloc Z).heap[k]? = _
    rw [Lib.alloc_old _ _ k (by simp; omega), Lib.alloc_old _ _ k hk]
  have hV6 : w6.heap[w.heap.size + 2]? = some (vRow 5 lv nv) := by
    rw [hgrow.block _ (by rw [hsz3]; omega) (fun e => by have := (hlt1 _ e.symm).1; omega), hold _ (by omega)]
    exact hP2.v
  have hts : ts.length = n * 6 := by rw [← hn]; exact hP.l.1
  obtain ⟨d1, d2, ⟨d3, d4, d5, d6⟩, d7⟩ := push_done hown hts hV6 (by omega) hWF
  have hgB := (World.ownsRow.lt hown g rfl).1
  have hsz6 := hgrow.size
  rw [hsz3] at hsz6
  have hfar : ∀ k, k < w2.heap.size → lv.ownBlock ≠ some k → k ≠ w.heap.size + 2 → WF.heap[k]? = w2.heap[k]? := fun k h1 h2 h3 => by
    have hkg : k ≠ g := by
      rcases hat with hat | hat
      · intro e; rw [e] at h2; exact h2 hat
      · rw [hsz3] at hat; omega
    rw [d7 k hkg h3, hgrow.block k (by rw [hsz3]; omega) (fun e => h2 e.symm), hold k h1]
  have hlow : ∀ k, k < w.heap.size + 3 → k ≠ w.heap.size + 2 → WF.heap[k]? = w2.heap[k]? := fun k h1 h2 => hfar k (by omega) (fun e => by have := (hlt1 k e).1; omega) h2
  have hbel : Below w.heap.size w2 WF := ⟨d3.trans hgrow.os, d4.trans hgrow.tape, d5.trans hgrow.output, by omega, fun k hk => hlow k (by omega) (by omega)⟩
  have hbox : WF.heap[w.heap.size]? = some (.cells #[.pointer (some ⟨R, 0, none⟩)] 54 (0, 0)) ∧ WF.heap[w.heap.size + 1]? = some (.cells #[.int .i64 deep] 3 (0, 0)) := by
    constructor
    · rw [hlow _ (by omega) (by omega), hg.block _ (by omega) (fun e => by have := Option.some.inj e; omega)]; exact hI.1
    · rw [hlow _ (by omega) (by omega), hg.block _ (by omega) (fun e => by have := Option.some.inj e; omega)]; exact hI.2.1
  obtain ⟨na, nc, hnv⟩ := own_shape hP.n
  unfold J.stepL
  rcases hV with ⟨rfl, y, v, r, hx, hlo, hh, hr⟩ | ⟨rfl, m, er, q', hx, hq', hr⟩
  · rw [hx]
    left
    refine ⟨_, _, rfl, rfl, (hR.trans hr).under hbel (Nat.le_refl _), hbox.1, hbox.2, hI.2.2.1, t'.snoc v, J.T.loose_snoc ht hlo, ?_⟩
    have hnn : WF.ownsRow (w.heap.size + 3) 9 1 nv ([] : List ByteArray).length (([] : List ByteArray).map Value.string) := by
      have h0 := hP2.n
      rcases h0.2 with ⟨rfl, h1⟩ | ⟨g2, cap2, cur2, h1, h2, h3, h4⟩
      · exact World.ownsRow_nil _ _ _ _
      · refine ⟨h0.1, Or.inr ⟨g2, cap2, cur2, h1, h2, ?_, h4⟩⟩
        rw [hfar g2 (Go.lt_of_block h3) (fun e => hP2.apart e (by rw [h1]; rfl)) (by omega)]; exact h3
    have := VP.push (H0 := W.heap.size) hP2 hh (by omega) (fun k hk => (hlt1 k hk).2) (fun k hk => (hlt2 k hk).2) (by omega) (fun k h1 h2 _ h3 => hfar k h1 h2 h3) (by omega) (by rw [hn]; exact d1) (by rcases hat with hat | hat; exact Or.inl hat; rw [hsz3] at hat; exact Or.inr (by omega)) (by rw [hn]; exact d2) hnn (fun k hk => Or.inl hk)
    exact ⟨_, _, _, this⟩
  · rw [hx]
    right
    exact ⟨_, _, _, rfl, hq', rfl, (hR.trans hr).under hbel (Nat.le_refl _), by rw [hnv] at d2; exact ⟨_, _, _, _, _, _, _, d2⟩⟩
set_option maxRecDepth 100000 in
set_option maxHeartbeats 4000000 in
theorem list_one {w : World} {G R : Nat} {s : ByteArray} {d deep : Nat} (hV : ValC G R s d (deep + 1)) (hG : Ground G w) (hGR : G ≤ R) (hd : deep < 16) (hs : s.size ≤ 1000000000000) :
    OneC w R s (J.stepL (J.val d)) 47 #[.pointer (some ⟨w.heap.size, 0, none⟩), .pointer (some ⟨w.heap.size + 1, 0, none⟩), .pointer (some ⟨w.heap.size + 2, 0, none⟩)] (ListInv w R deep) (VBad (w.heap.size + 2)) := by
  intro st q W hq hl1 hl2 hR hI
  have HR := hid hR
  have HI := hid hI
  have cV := hV q W hR.own hq (hG.keep (hR.base hGR))
  obtain ⟨hr1, hd1, -, -⟩ := hI
  have c0 := cell_of_one hr1
  have c1 := cell_of_one hd1
  obtain ⟨dp, hdp⟩ : ∃ dp, deep + 1 = dp := ⟨_, rfl⟩
  rw [hdp] at cV
  have e1 : (deep : Int) + 1 = (dp : Int) := by omega
  have e2 : IntKind.i64.wrap (dp : Int) = (dp : Int) := by rw [IntKind.wrap_i64]; omega
  clear hr1 hd1 hR hV
  go_enter Tryz.func47, Tryz.ntmps47
  go_wp2_with fail
  refine cV.mono ?_
  intro e w2 hval
  obtain ⟨b, cs, rfl, ⟨k', b', n', s', a1, l1, q1, a2, l2, q2, rfl⟩, hparts⟩ := hval.parts
  have HV : Hid (Parts W R s (J.val d (s.data.toList.drop q)) b [.int .u8 k', .bool b', .int .i64 n', .string s', .slice a1 l1 q1, .slice a2 l2 q2] w2) := hparts
  obtain ⟨_, _, _, t', ht', lv, nv, ts, hPW⟩ := HI.out
  have hg2 := HV.out.g
  have hP2 := hPW.kept hg2 (by have := HR.out.lt; omega) (by have := HR.out.lt; omega)
  have HPW := hid hPW
  have HT := hid ht'
  obtain ⟨hv1, hv2, -, -⟩ := hP2
  obtain ⟨la, lc, rfl⟩ := own_shape hv2
  have hlen : t'.length ≤ 1000000000000 := by rw [J.T.loose_len ht']; omega
  obtain ⟨n, hn⟩ : ∃ n, t'.length = n := ⟨_, rfl⟩
  rw [hn] at hv2 hv1 hlen HPW
  have HN := hid hn
  have FIN := hid (fun g cap w6 WF hown hgrow hat hWF => list_end (n := n) (g := g) (cap := cap) (w6 := w6) (WF := WF) (ZX := .cells #[.int .u8 k', .bool b', .int .i64 n', .string s', .slice a1 l1 q1, .slice a2 l2 q2] 25) (Z := .cells #[.int .u8 0, .bool false, .int .i64 0, .string ⟨#[]⟩, .slice none 0 0, .slice none 0 0] 25) HR.out HI.out HT.out HPW.out HN.out HV.out hgrow hat hown hWF)
  have hts : ts.length = n * 6 := hv2.1
  clear hval cV hdp ht' hn hparts hPW hg2
  go_upto_region 2 with fail
  have HX : Hid ((w2.alloc (.cells #[.int .u8 k', .bool b', .int .i64 n', .string s', .slice a1 l1 q1, .slice a2 l2 q2] 25)).heap[w2.heap.size]? = some (.cells #[.int .u8 k', .bool b', .int .i64 n', .string s', .slice a1 l1 q1, .slice a2 l2 q2] 25 (0, 0))) := heap_alloc_new w2 _
  have H1 := hid (Go.Lib.alloc_old w2 (.cells #[.int .u8 k', .bool b', .int .i64 n', .string s', .slice a1 l1 q1, .slice a2 l2 q2] 25) _ (Go.lt_of_block hv1))
  have H2 := hid (World.ownsRow.alloc hv2 (.cells #[.int .u8 k', .bool b', .int .i64 n', .string s', .slice a1 l1 q1, .slice a2 l2 q2] 25))
  obtain ⟨w3, hw3⟩ : ∃ w3, w2.alloc (.cells #[.int .u8 k', .bool b', .int .i64 n', .string s', .slice a1 l1 q1, .slice a2 l2 q2] 25) = w3 := ⟨_, rfl⟩
  rw [hw3] at HX H1 H2 ⊢
  obtain ⟨X, hX⟩ : ∃ X, w2.heap.size = X := ⟨_, rfl⟩
  rw [hX] at HX ⊢
  have hsz3 : w3.heap.size = X + 1 := by rw [← hw3, ← hX]; simp
  obtain ⟨V, hVe⟩ : ∃ V, w.heap.size + 2 = V := ⟨_, rfl⟩
  obtain ⟨B, hB⟩ : ∃ B, w.heap.size + 3 = B := ⟨_, rfl⟩
  rw [hVe] at H1 hv1 ⊢
  rw [hB] at H2
  have cv4 : w3.cell? ⟨V, 4, none⟩ = some (.slice la n lc) := by
    have : w3.heap[V]? = some (vRow 5 (.slice la n lc) nv) := H1.out.trans hv1
    rw [Lib.cell_of_heap this]; rfl
  have fv4 : w3.frozen? ⟨V, 4, none⟩ = false := by
    have : w3.heap[V]? = some (vRow 5 (.slice la n lc) nv) := H1.out.trans hv1
    exact Lib.frozen_of_heap this 4
  have x0 : w3.cell? ⟨X, 0, none⟩ = some (.int .u8 k') := by rw [Lib.cell_of_heap HX.out]; rfl
  have x1 : w3.cell? ⟨X, 1, none⟩ = some (.bool b') := by rw [Lib.cell_of_heap HX.out]; rfl
  have x2 : w3.cell? ⟨X, 2, none⟩ = some (.int .i64 n') := by rw [Lib.cell_of_heap HX.out]; rfl
  have x3 : w3.cell? ⟨X, 3, none⟩ = some (.string s') := by rw [Lib.cell_of_heap HX.out]; rfl
  have x4 : w3.cell? ⟨X, 4, none⟩ = some (.slice a1 l1 q1) := by rw [Lib.cell_of_heap HX.out]; rfl
  have x5 : w3.cell? ⟨X, 5, none⟩ = some (.slice a2 l2 q2) := by rw [Lib.cell_of_heap HX.out]; rfl
  obtain ⟨i0, hi, hz0, hz1, hz2⟩ := info_parts infoJSON2
  have HVB : Hid (V < B ∧ B ≤ w3.heap.size ∧ V < w3.heap.size) := by
    have := Go.lt_of_block hv1
    have := HR.out.lt
    show _ ∧ _ ∧ _
    omega
  have hB3 := HVB.out.2.1
  have H1V : Hid (w3.heap[V]? = some (vRow 5 (.slice la n lc) nv)) := H1.out.trans hv1
  have HSZ := hid hsz3
  clear hsz3
  have HW3 := hid hw3
  have HVE := hid hVe
  rw [hVe, hB, hw3] at FIN
  clear hw3 hX hVe hB hv1 hl1 hl2 c0 c1 e1 e2 H1
  have htest := (World.news_of_block (heap_alloc_new w3 (.cells zero6.toArray 25)))
  have htest2 := (World.ownsRow.drew (World.ownsRow.alloc H2.out (.cells zero6.toArray 25)))
  have hbd : (n + 1) * 80 ≤ 140737488355328 := by omega
  have hmx : n + 1 ≤ maxLen := by unfold maxLen; omega
  have hn1 : (n : Int) < (n : Int) + 1 := by omega
  have hX3 : X < w3.heap.size := Go.lt_of_block HX.out
  have z0 := (((Below.refl w3.heap.size w3).alloc (Nat.le_refl _) (.cells #[.int .u8 0, .bool false, .int .i64 0, .string ⟨#[]⟩, .slice none 0 0, .slice none 0 0] 25)).cell (p := ⟨X, 0, none⟩) hX3).trans x0
  have z1 := (((Below.refl w3.heap.size w3).alloc (Nat.le_refl _) (.cells #[.int .u8 0, .bool false, .int .i64 0, .string ⟨#[]⟩, .slice none 0 0, .slice none 0 0] 25)).cell (p := ⟨X, 1, none⟩) hX3).trans x1
  have z2 := (((Below.refl w3.heap.size w3).alloc (Nat.le_refl _) (.cells #[.int .u8 0, .bool false, .int .i64 0, .string ⟨#[]⟩, .slice none 0 0, .slice none 0 0] 25)).cell (p := ⟨X, 2, none⟩) hX3).trans x2
  have z3 := (((Below.refl w3.heap.size w3).alloc (Nat.le_refl _) (.cells #[.int .u8 0, .bool false, .int .i64 0, .string ⟨#[]⟩, .slice none 0 0, .slice none 0 0] 25)).cell (p := ⟨X, 3, none⟩) hX3).trans x3
  have z4 := (((Below.refl w3.heap.size w3).alloc (Nat.le_refl _) (.cells #[.int .u8 0, .bool false, .int .i64 0, .string ⟨#[]⟩, .slice none 0 0, .slice none 0 0] 25)).cell (p := ⟨X, 4, none⟩) hX3).trans x4
  have z5 := (((Below.refl w3.heap.size w3).alloc (Nat.le_refl _) (.cells #[.int .u8 0, .bool false, .int .i64 0, .string ⟨#[]⟩, .slice none 0 0, .slice none 0 0] 25)).cell (p := ⟨X, 5, none⟩) hX3).trans x5
  have zv := (((Below.refl w3.heap.size w3).alloc (Nat.le_refl _) (.cells #[.int .u8 0, .bool false, .int .i64 0, .string ⟨#[]⟩, .slice none 0 0, .slice none 0 0] 25)).cell (p := ⟨V, 4, none⟩) HVB.out.2.2).trans cv4
  go_region_law (refine step_append_lies _ (by rfl) (.tmp 14) (.tmp 17) 22 (by rfl) B 25 i0 _ 6 80 Tryz.underlying22 hi hz0 hz1 hz2 rfl (by decide) (.slice la n lc) n ts (by rfl) htest2 ⟨w3.heap.size, 0, none⟩ 1 1 zero6 (by rfl) rfl htest Shape.zero.one (by decide) hmx hbd (Nat.le_trans hB3 (by simp)) _ rfl ?_; intro g cap w6 hown hgrow hat hlt; (have KV := keepV hgrow htest2 HVB.out H1V.out); (have FV := Lib.frozen_of_heap KV 4); (have CV : w6.cell? ⟨V, 4, none⟩ = some (.slice la n lc) := by rw [Lib.cell_of_heap KV]; rfl); (have HKV := hid KV); clear KV; (obtain ⟨y0, y1, y2, y3, y4, y5, f0, f1, f2, f3, f4, f5, hgB⟩ := push_facts hown hts); (have gv1 : g ≠ V := by have := HVB.out.1; omega); (have gv2 : V ≠ g := by omega); (have HO := hid hown); (have HG := hid hgrow); clear hown hgrow)
  · clear x0 x1 x2 x3 x4 x5 z0 z1 z2 z3 z4 z5 zv y0 y1 y2 y3 y4 y5 f0 f1 f2 f3 f4 f5 CV FV cv4
    have FZ : ∀ (en : Ending) (WF : World), en = .returned (.bool b) → (WF = (st6 w6 g (n * 6) (.int .u8 k') (.bool b') (.int .i64 n') (.string s') (.slice a1 l1 q1) (.slice a2 l2 q2)).setCell ⟨V, 4, none⟩ (.slice (some ⟨g, 0, none⟩) (n + 1) cap) ∨ WF = st6 (w6.setCell ⟨V, 4, none⟩ (.slice (some ⟨g, 0, none⟩) (n + 1) cap)) g (n * 6) (.int .u8 k') (.bool b') (.int .i64 n') (.string s') (.slice a1 l1 q1) (.slice a2 l2 q2)) → OneOf w R s (J.stepL (J.val d) st (s.data.toList.drop q)) (ListInv w R deep) (VBad (w.heap.size + 2)) en WF := fun en WF h1 h2 => by rw [h1, HVE.out]; exact FIN.out g cap w6 WF HO.out HG.out hat h2
    have HFZ := hid FZ
    clear FZ
    go_wp2_with fail
    go_ret
    have FZ := HFZ.out
    with_reducible refine FZ _ _ ?_ (Or.inl rfl)
    rfl
  · clear x0 x1 x2 x3 x4 x5 z0 z1 z2 z3 z4 z5 zv y0 y1 y2 y3 y4 y5 f0 f1 f2 f3 f4 f5 CV FV cv4
    have FZ : ∀ (en : Ending) (WF : World), en = .returned (.bool b) → (WF = (st6 w6 g (n * 6) (.int .u8 k') (.bool b') (.int .i64 n') (.string s') (.slice a1 l1 q1) (.slice a2 l2 q2)).setCell ⟨V, 4, none⟩ (.slice (some ⟨g, 0, none⟩) (n + 1) cap) ∨ WF = st6 (w6.setCell ⟨V, 4, none⟩ (.slice (some ⟨g, 0, none⟩) (n + 1) cap)) g (n * 6) (.int .u8 k') (.bool b') (.int .i64 n') (.string s') (.slice a1 l1 q1) (.slice a2 l2 q2)) → OneOf w R s (J.stepL (J.val d) st (s.data.toList.drop q)) (ListInv w R deep) (VBad (w.heap.size + 2)) en WF := fun en WF h1 h2 => by rw [h1, HVE.out]; exact FIN.out g cap w6 WF HO.out HG.out hat h2
    have HFZ := hid FZ
    clear FZ
    go_wp2_with fail
    go_ret
    have FZ := HFZ.out
    with_reducible refine FZ _ _ ?_ (Or.inr rfl)
    rfl
  · clear x0 x1 x2 x3 x4 x5 z0 z1 z2 z3 z4 z5 zv y0 y1 y2 y3 y4 y5 f0 f1 f2 f3 f4 f5 CV FV cv4
    have FZ : ∀ (en : Ending) (WF : World), en = .returned (.bool b) → (WF = (st6 w6 g (n * 6) (.int .u8 k') (.bool b') (.int .i64 n') (.string s') (.slice a1 l1 q1) (.slice a2 l2 q2)).setCell ⟨V, 4, none⟩ (.slice (some ⟨g, 0, none⟩) (n + 1) cap) ∨ WF = st6 (w6.setCell ⟨V, 4, none⟩ (.slice (some ⟨g, 0, none⟩) (n + 1) cap)) g (n * 6) (.int .u8 k') (.bool b') (.int .i64 n') (.string s') (.slice a1 l1 q1) (.slice a2 l2 q2)) → OneOf w R s (J.stepL (J.val d) st (s.data.toList.drop q)) (ListInv w R deep) (VBad (w.heap.size + 2)) en WF := fun en WF h1 h2 => by rw [h1, HVE.out]; exact FIN.out g cap w6 WF HO.out HG.out hat h2
    have HFZ := hid FZ
    clear FZ
    go_wp2_with fail
    go_ret
    have FZ := HFZ.out
    with_reducible refine FZ _ _ ?_ (Or.inl rfl)
    rfl
  · clear x0 x1 x2 x3 x4 x5 z0 z1 z2 z3 z4 z5 zv y0 y1 y2 y3 y4 y5 f0 f1 f2 f3 f4 f5 CV FV cv4
    have FZ : ∀ (en : Ending) (WF : World), en = .returned (.bool b) → (WF = (st6 w6 g (n * 6) (.int .u8 k') (.bool b') (.int .i64 n') (.string s') (.slice a1 l1 q1) (.slice a2 l2 q2)).setCell ⟨V, 4, none⟩ (.slice (some ⟨g, 0, none⟩) (n + 1) cap) ∨ WF = st6 (w6.setCell ⟨V, 4, none⟩ (.slice (some ⟨g, 0, none⟩) (n + 1) cap)) g (n * 6) (.int .u8 k') (.bool b') (.int .i64 n') (.string s') (.slice a1 l1 q1) (.slice a2 l2 q2)) → OneOf w R s (J.stepL (J.val d) st (s.data.toList.drop q)) (ListInv w R deep) (VBad (w.heap.size + 2)) en WF := fun en WF h1 h2 => by rw [h1, HVE.out]; exact FIN.out g cap w6 WF HO.out HG.out hat h2
    have HFZ := hid FZ
    clear FZ
    go_wp2_with fail
    go_ret
    have FZ := HFZ.out
    with_reducible refine FZ _ _ ?_ (Or.inr rfl)
    rfl
  · clear x0 x1 x2 x3 x4 x5 z0 z1 z2 z3 z4 z5 zv y0 y1 y2 y3 y4 y5 f0 f1 f2 f3 f4 f5 CV FV cv4
    have FZ : ∀ (en : Ending) (WF : World), en = .returned (.bool b) → (WF = (st6 w6 g (n * 6) (.int .u8 k') (.bool b') (.int .i64 n') (.string s') (.slice a1 l1 q1) (.slice a2 l2 q2)).setCell ⟨V, 4, none⟩ (.slice (some ⟨g, 0, none⟩) (n + 1) cap) ∨ WF = st6 (w6.setCell ⟨V, 4, none⟩ (.slice (some ⟨g, 0, none⟩) (n + 1) cap)) g (n * 6) (.int .u8 k') (.bool b') (.int .i64 n') (.string s') (.slice a1 l1 q1) (.slice a2 l2 q2)) → OneOf w R s (J.stepL (J.val d) st (s.data.toList.drop q)) (ListInv w R deep) (VBad (w.heap.size + 2)) en WF := fun en WF h1 h2 => by rw [h1, HVE.out]; exact FIN.out g cap w6 WF HO.out HG.out hat h2
    have HFZ := hid FZ
    clear FZ
    go_wp2_with fail
    go_ret
    have FZ := HFZ.out
    with_reducible refine FZ _ _ ?_ (Or.inl rfl)
    rfl
  · clear x0 x1 x2 x3 x4 x5 z0 z1 z2 z3 z4 z5 zv y0 y1 y2 y3 y4 y5 f0 f1 f2 f3 f4 f5 CV FV cv4
    have FZ : ∀ (en : Ending) (WF : World), en = .returned (.bool b) → (WF = (st6 w6 g (n * 6) (.int .u8 k') (.bool b') (.int .i64 n') (.string s') (.slice a1 l1 q1) (.slice a2 l2 q2)).setCell ⟨V, 4, none⟩ (.slice (some ⟨g, 0, none⟩) (n + 1) cap) ∨ WF = st6 (w6.setCell ⟨V, 4, none⟩ (.slice (some ⟨g, 0, none⟩) (n + 1) cap)) g (n * 6) (.int .u8 k') (.bool b') (.int .i64 n') (.string s') (.slice a1 l1 q1) (.slice a2 l2 q2)) → OneOf w R s (J.stepL (J.val d) st (s.data.toList.drop q)) (ListInv w R deep) (VBad (w.heap.size + 2)) en WF := fun en WF h1 h2 => by rw [h1, HVE.out]; exact FIN.out g cap w6 WF HO.out HG.out hat h2
    have HFZ := hid FZ
    clear FZ
    go_wp2_with fail
    go_ret
    have FZ := HFZ.out
    with_reducible refine FZ _ _ ?_ (Or.inr rfl)
    rfl
  · clear x0 x1 x2 x3 x4 x5 z0 z1 z2 z3 z4 z5 zv y0 y1 y2 y3 y4 y5 f0 f1 f2 f3 f4 f5 CV FV cv4
    have FZ : ∀ (en : Ending) (WF : World), en = .returned (.bool b) → (WF = (st6 w6 g (n * 6) (.int .u8 k') (.bool b') (.int .i64 n') (.string s') (.slice a1 l1 q1) (.slice a2 l2 q2)).setCell ⟨V, 4, none⟩ (.slice (some ⟨g, 0, none⟩) (n + 1) cap) ∨ WF = st6 (w6.setCell ⟨V, 4, none⟩ (.slice (some ⟨g, 0, none⟩) (n + 1) cap)) g (n * 6) (.int .u8 k') (.bool b') (.int .i64 n') (.string s') (.slice a1 l1 q1) (.slice a2 l2 q2)) → OneOf w R s (J.stepL (J.val d) st (s.data.toList.drop q)) (ListInv w R deep) (VBad (w.heap.size + 2)) en WF := fun en WF h1 h2 => by rw [h1, HVE.out]; exact FIN.out g cap w6 WF HO.out HG.out hat h2
    have HFZ := hid FZ
    clear FZ
    go_wp2_with fail
    go_ret
    have FZ := HFZ.out
    with_reducible refine FZ _ _ ?_ (Or.inl rfl)
    rfl
  · clear x0 x1 x2 x3 x4 x5 z0 z1 z2 z3 z4 z5 zv y0 y1 y2 y3 y4 y5 f0 f1 f2 f3 f4 f5 CV FV cv4
    have FZ : ∀ (en : Ending) (WF : World), en = .returned (.bool b) → (WF = (st6 w6 g (n * 6) (.int .u8 k') (.bool b') (.int .i64 n') (.string s') (.slice a1 l1 q1) (.slice a2 l2 q2)).setCell ⟨V, 4, none⟩ (.slice (some ⟨g, 0, none⟩) (n + 1) cap) ∨ WF = st6 (w6.setCell ⟨V, 4, none⟩ (.slice (some ⟨g, 0, none⟩) (n + 1) cap)) g (n * 6) (.int .u8 k') (.bool b') (.int .i64 n') (.string s') (.slice a1 l1 q1) (.slice a2 l2 q2)) → OneOf w R s (J.stepL (J.val d) st (s.data.toList.drop q)) (ListInv w R deep) (VBad (w.heap.size + 2)) en WF := fun en WF h1 h2 => by rw [h1, HVE.out]; exact FIN.out g cap w6 WF HO.out HG.out hat h2
    have HFZ := hid FZ
    clear FZ
    go_wp2_with fail
    go_ret
    have FZ := HFZ.out
    with_reducible refine FZ _ _ ?_ (Or.inr rfl)
    rfl
  · clear x0 x1 x2 x3 x4 x5 z0 z1 z2 z3 z4 z5 zv y0 y1 y2 y3 y4 y5 f0 f1 f2 f3 f4 f5 CV FV cv4
    have FZ : ∀ (en : Ending) (WF : World), en = .returned (.bool b) → (WF = (st6 w6 g (n * 6) (.int .u8 k') (.bool b') (.int .i64 n') (.string s') (.slice a1 l1 q1) (.slice a2 l2 q2)).setCell ⟨V, 4, none⟩ (.slice (some ⟨g, 0, none⟩) (n + 1) cap) ∨ WF = st6 (w6.setCell ⟨V, 4, none⟩ (.slice (some ⟨g, 0, none⟩) (n + 1) cap)) g (n * 6) (.int .u8 k') (.bool b') (.int .i64 n') (.string s') (.slice a1 l1 q1) (.slice a2 l2 q2)) → OneOf w R s (J.stepL (J.val d) st (s.data.toList.drop q)) (ListInv w R deep) (VBad (w.heap.size + 2)) en WF := fun en WF h1 h2 => by rw [h1, HVE.out]; exact FIN.out g cap w6 WF HO.out HG.out hat h2
    have HFZ := hid FZ
    clear FZ
    go_wp2_with fail
    go_ret
    have FZ := HFZ.out
    with_reducible refine FZ _ _ ?_ (Or.inl rfl)
    rfl
  · clear x0 x1 x2 x3 x4 x5 z0 z1 z2 z3 z4 z5 zv y0 y1 y2 y3 y4 y5 f0 f1 f2 f3 f4 f5 CV FV cv4
    have FZ : ∀ (en : Ending) (WF : World), en = .returned (.bool b) → (WF = (st6 w6 g (n * 6) (.int .u8 k') (.bool b') (.int .i64 n') (.string s') (.slice a1 l1 q1) (.slice a2 l2 q2)).setCell ⟨V, 4, none⟩ (.slice (some ⟨g, 0, none⟩) (n + 1) cap) ∨ WF = st6 (w6.setCell ⟨V, 4, none⟩ (.slice (some ⟨g, 0, none⟩) (n + 1) cap)) g (n * 6) (.int .u8 k') (.bool b') (.int .i64 n') (.string s') (.slice a1 l1 q1) (.slice a2 l2 q2)) → OneOf w R s (J.stepL (J.val d) st (s.data.toList.drop q)) (ListInv w R deep) (VBad (w.heap.size + 2)) en WF := fun en WF h1 h2 => by rw [h1, HVE.out]; exact FIN.out g cap w6 WF HO.out HG.out hat h2
    have HFZ := hid FZ
    clear FZ
    go_wp2_with fail
    go_ret
    have FZ := HFZ.out
    with_reducible refine FZ _ _ ?_ (Or.inr rfl)
    rfl
  · clear x0 x1 x2 x3 x4 x5 z0 z1 z2 z3 z4 z5 zv y0 y1 y2 y3 y4 y5 f0 f1 f2 f3 f4 f5 CV FV cv4
    have FZ : ∀ (en : Ending) (WF : World), en = .returned (.bool b) → (WF = (st6 w6 g (n * 6) (.int .u8 k') (.bool b') (.int .i64 n') (.string s') (.slice a1 l1 q1) (.slice a2 l2 q2)).setCell ⟨V, 4, none⟩ (.slice (some ⟨g, 0, none⟩) (n + 1) cap) ∨ WF = st6 (w6.setCell ⟨V, 4, none⟩ (.slice (some ⟨g, 0, none⟩) (n + 1) cap)) g (n * 6) (.int .u8 k') (.bool b') (.int .i64 n') (.string s') (.slice a1 l1 q1) (.slice a2 l2 q2)) → OneOf w R s (J.stepL (J.val d) st (s.data.toList.drop q)) (ListInv w R deep) (VBad (w.heap.size + 2)) en WF := fun en WF h1 h2 => by rw [h1, HVE.out]; exact FIN.out g cap w6 WF HO.out HG.out hat h2
    have HFZ := hid FZ
    clear FZ
    go_wp2_with fail
    go_ret
    have FZ := HFZ.out
    with_reducible refine FZ _ _ ?_ (Or.inl rfl)
    rfl
  · clear x0 x1 x2 x3 x4 x5 z0 z1 z2 z3 z4 z5 zv y0 y1 y2 y3 y4 y5 f0 f1 f2 f3 f4 f5 CV FV cv4
    have FZ : ∀ (en : Ending) (WF : World), en = .returned (.bool b) → (WF = (st6 w6 g (n * 6) (.int .u8 k') (.bool b') (.int .i64 n') (.string s') (.slice a1 l1 q1) (.slice a2 l2 q2)).setCell ⟨V, 4, none⟩ (.slice (some ⟨g, 0, none⟩) (n + 1) cap) ∨ WF = st6 (w6.setCell ⟨V, 4, none⟩ (.slice (some ⟨g, 0, none⟩) (n + 1) cap)) g (n * 6) (.int .u8 k') (.bool b') (.int .i64 n') (.string s') (.slice a1 l1 q1) (.slice a2 l2 q2)) → OneOf w R s (J.stepL (J.val d) st (s.data.toList.drop q)) (ListInv w R deep) (VBad (w.heap.size + 2)) en WF := fun en WF h1 h2 => by rw [h1, HVE.out]; exact FIN.out g cap w6 WF HO.out HG.out hat h2
    have HFZ := hid FZ
    clear FZ
    go_wp2_with fail
    go_ret
    have FZ := HFZ.out
    with_reducible refine FZ _ _ ?_ (Or.inr rfl)
    rfl
end Go.Proofs.YtphjfighamadgaaGreatDoor
