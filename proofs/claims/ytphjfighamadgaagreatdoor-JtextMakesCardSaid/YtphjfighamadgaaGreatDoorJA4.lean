/- The reader: its state in memory, its small functions. -/
import Derived.Test.YtphjfighamadgaaGreatDoorJA1
import Derived.Test.YtphjfighamadgaaGreatDoorJA3
import Derived.Test.YtphjfighamadgaaGreatDoorShelf
import Derived.BigRegion
import Derived.BigQuiet
import Derived.Deep.RegionWith
import Derived.Deep.DrawnRows
import Derived.RegionTactic
import Derived.Maps.AppendAt
import Derived.Lib.IndexBytes
import Derived.Deep.QuietTactic
import Derived.WalkSmall
import Derived.Test.YtphjfighamadgaaGreatDoorJA2
import Derived.Lib.Bytealg
namespace Go.Proofs.YtphjfighamadgaaGreatDoor
open Go.RowKit
open Go.Lib (hid)
def rdRow (s : ByteArray) (p : Nat) (e x : Int) : Obj := .cells #[.string s, .int .i64 p, .int .i64 e, .int .i64 x] 56 (0, 0)
/-- the first error stays, and where it was -/
def errE (e er : Int) : Int := if e = 0 then er else e
def errX (e x at_ : Int) : Int := if e = 0 then at_ else x
/-- a reader in block R: its text, its place, its first error and where; all that stood in w but this block is as it was -/
structure Rdr (w : World) (R : Nat) (s : ByteArray) (p : Nat) (e x : Int) (W : World) : Prop where
  g : w.grownBy W (some R)
  r : W.heap[R]? = some (rdRow s p e x)
  lt : R < w.heap.size
theorem Rdr.below {w W W' : World} {R p : Nat} {s : ByteArray} {e x : Int} (h : Rdr w R s p e x W) (b : Below W.heap.size W W') : Rdr w R s p e x W' :=
  ⟨h.g.trans ⟨b.os, b.tape, b.output, b.size, fun k hk _ => b.block k hk⟩, by rw [b.block _ (Go.lt_of_block h.r)]; exact h.r, h.lt⟩
theorem Rdr.drew {w W : World} {R p : Nat} {s : ByteArray} {e x : Int} (h : Rdr w R s p e x W) : Rdr w R s p e x W.drew := h.below (Below.refl _ W).drew
theorem Rdr.alloc {w W : World} {R p : Nat} {s : ByteArray} {e x : Int} (h : Rdr w R s p e x W) (o : Obj) : Rdr w R s p e x (W.alloc o) := h.below ((Below.refl _ W).alloc (Nat.le_refl _) o)
theorem grownBy_set (w : World) (b i : Nat) (v : Value) : w.grownBy (w.setCell ⟨b, i, none⟩ v) (some b) := by
  refine ⟨rfl, rfl, rfl, by simp [World.setCell], fun k _ hne => ?_⟩
  have hkb : b ≠ k := fun e => hne (by rw [e])
  show (w.heap.modify b _)[k]? = _
  rw [Array.getElem?_modify]
  simp [hkb]
theorem Rdr.set1 {w W : World} {R p : Nat} {s : ByteArray} {e x : Int} (h : Rdr w R s p e x W) (q : Nat) : Rdr w R s q e x (W.setCell ⟨R, 1, none⟩ (.int .i64 q)) :=
  ⟨h.g.trans (grownBy_set _ _ _ _), row_set h.r 1 _, h.lt⟩
theorem Rdr.set23 {w W : World} {R p : Nat} {s : ByteArray} {e x : Int} (h : Rdr w R s p e x W) (e' x' : Int) : Rdr w R s p e' x' ((W.setCell ⟨R, 2, none⟩ (.int .i64 e')).setCell ⟨R, 3, none⟩ (.int .i64 x')) :=
  ⟨(h.g.trans (grownBy_set _ _ _ _)).trans (grownBy_set _ _ _ _), row_set (row_set h.r 2 _) 3 _, h.lt⟩
theorem Rdr.cells {w W : World} {R p : Nat} {s : ByteArray} {e x : Int} (h : Rdr w R s p e x W) : W.cell? ⟨R, 0, none⟩ = some (.string s) ∧ W.cell? ⟨R, 1, none⟩ = some (.int .i64 p) ∧ W.cell? ⟨R, 2, none⟩ = some (.int .i64 e) ∧ W.cell? ⟨R, 3, none⟩ = some (.int .i64 x) := row4 h.r
theorem Rdr.free {w W : World} {R p : Nat} {s : ByteArray} {e x : Int} (h : Rdr w R s p e x W) : W.frozen? ⟨R, 0, none⟩ = false ∧ W.frozen? ⟨R, 1, none⟩ = false ∧ W.frozen? ⟨R, 2, none⟩ = false ∧ W.frozen? ⟨R, 3, none⟩ = false := free4 h.r
set_option maxRecDepth 100000 in
theorem fail_any {w : World} {R p : Nat} {s : ByteArray} {e x : Int} (er at_ : Int) {W : World} (h : Rdr w R s p e x W) :
    Calls Tryz.prog 51 #[.pointer (some ⟨R, 0, none⟩), .int .i64 er, .int .i64 at_] W fun en W' => en = .returned (.bool false) ∧ Rdr w R s p (errE e er) (errX e x at_) W' := by
  have HR := hid h
  obtain ⟨c0, c1, c2, c3⟩ := h.cells
  obtain ⟨f0, f1, f2, f3⟩ := h.free
  clear h
  by_cases e0 : e = 0
  · subst e0
    rw [show errE 0 er = er from rfl, show errX 0 x at_ = at_ from rfl]
    go_enter Tryz.func51, Tryz.ntmps51
    go_wp2_with fail
    go_ret
    exact ⟨rfl, HR.out.set23 er at_⟩
  · rw [show errE e er = e from if_neg e0, show errX e x at_ = x from if_neg e0]
    have t0 : (e == 0) = false := beq_eq_false_iff_ne.2 e0
    clear e0
    go_enter Tryz.func51, Tryz.ntmps51
    go_wp2_with fail
    go_ret
    exact ⟨rfl, HR.out⟩
set_option maxRecDepth 100000 in
theorem bad_any {w : World} {R p : Nat} {s : ByteArray} {e x : Int} {W : World} (h : Rdr w R s p e x W) :
    Calls Tryz.prog 28 #[.pointer (some ⟨R, 0, none⟩)] W fun en W' => en = .returned (.bool false) ∧ Rdr w R s p (errE e 4) (errX e x p) W' := by
  have HR := hid h
  have HF := hid (fail_any 4 (p : Int) h)
  obtain ⟨c0, c1, c2, c3⟩ := h.cells
  clear h
  go_enter Tryz.func28, Tryz.ntmps28
  go_wp2_with fail
  refine HF.out.mono ?_
  rintro en W' ⟨rfl, hr⟩
  have H1 := hid hr
  clear hr
  go_wp2_with fail
  go_ret
  exact ⟨rfl, H1.out⟩
namespace J
theorem skip_drop : ∀ (l : List UInt8), skip l = l.dropWhile blank
  | [] => rfl
  | c :: r => by
    unfold skip
    rw [List.dropWhile_cons, skip_drop r]
theorem trim_skip (l : List UInt8) : Lib.trimLeftS l [32, 9, 13, 10] = skip l := by
  rw [skip_drop, Lib.trimLeftS]
  congr 1
  funext c
  rw [Bool.eq_iff_iff]
  simp only [blank, List.contains_cons, List.contains_nil, Bool.or_eq_true, beq_iff_eq, Bool.or_false, or_assoc]
  constructor
  · rintro (h | h | h | h) <;> simp [h]
  · rintro (h | h | h | h) <;> simp [h]
/-- how far the place behind the blanks is -/
def nextP (s : ByteArray) (p : Nat) : Nat := s.size - (skip (s.data.toList.drop p)).length
/-- the byte there, 0 at the end -/
def nextB (s : ByteArray) (p : Nat) : Nat := ((skip (s.data.toList.drop p)).headD 0).toNat
theorem nextP_drop (s : ByteArray) (p : Nat) : s.data.toList.drop (nextP s p) = skip (s.data.toList.drop p) := by
  unfold nextP
  obtain ⟨k, hk, e⟩ := skip_suffix (s.data.toList.drop p)
  rw [e, List.drop_drop, List.length_drop]
  have hs : s.data.toList.length = s.size := Lib.size_eq s |>.symm
  by_cases h : p + k ≤ s.size
  · rw [hs, show s.size - (s.size - (p + k)) = p + k by omega]
  · rw [List.drop_eq_nil_of_le (by omega), List.drop_eq_nil_of_le (by omega)]
theorem nextP_le (s : ByteArray) (p : Nat) : nextP s p ≤ s.size := Nat.sub_le _ _
end J
theorem Rdr.s4 {w W : World} {R p : Nat} {s : ByteArray} {e x : Int} (h : Rdr w R s p e x W) :
    W.cell? ⟨R, 0, none⟩ = some (.string s) ∧ W.cell? ⟨R, 1, none⟩ = some (.int .i64 p) ∧ W.frozen? ⟨R, 1, none⟩ = false ∧ Hid (Rdr w R s p e x W) := ⟨h.cells.1, h.cells.2.1, h.free.2.1, h⟩
theorem trim_at (s : ByteArray) (p : Nat) : ∃ t : ByteArray, t.size = (J.skip (s.data.toList.drop p)).length ∧ ∀ U, Calls Tryz.prog 50 #[.string (s.extract p s.size), .string ⟨#[32, 9, 13, 10]⟩] U fun e w' => e = .returned (.string t) ∧ Below U.heap.size U w' := by
  refine ⟨⟨(J.skip (s.data.toList.drop p)).toArray⟩, by show (J.skip (s.data.toList.drop p)).toArray.size = _; simp, fun U => ?_⟩
  have h := Tryz.strings_TrimLeft_set (s.extract p s.size) ⟨#[32, 9, 13, 10]⟩ U (by decide) (by
    intro j b hj
    have : (⟨#[32, 9, 13, 10]⟩ : ByteArray).data.toList = [32, 9, 13, 10] := rfl
    rw [this] at hj
    have hm := List.mem_of_getElem? hj
    simp only [List.mem_cons, List.not_mem_nil, or_false] at hm
    rcases hm with rfl | rfl | rfl | rfl <;> decide)
  have e1 : (s.extract p s.size).data.toList = s.data.toList.drop p := by
    rw [Lib.extract_to_end]
  rw [e1, show (⟨#[32, 9, 13, 10]⟩ : ByteArray).data.toList = [32, 9, 13, 10] from rfl, J.trim_skip] at h
  exact h
theorem next_byte {s : ByteArray} {p : Nat} (h : J.nextP s p < s.size) : ((s[J.nextP s p]'h).toNat) = J.nextB s p := by
  unfold J.nextB
  rw [← J.nextP_drop, List.drop_eq_getElem_cons (by rw [← Lib.size_eq]; exact h)]
  rfl
theorem next_end {s : ByteArray} {p : Nat} (h : J.nextP s p = s.size) : J.nextB s p = 0 := by
  unfold J.nextB
  rw [← J.nextP_drop, List.drop_eq_nil_of_le (by rw [← Lib.size_eq]; omega)]
  rfl
attribute [local go_sem ↓] Go.wp_at_zero Go.wp_at_succ in
set_option maxRecDepth 100000 in
set_option maxHeartbeats 2000000 in
theorem next_any {w : World} {R p : Nat} {s : ByteArray} {e x : Int} {W : World} (h : Rdr w R s p e x W) (hp : p ≤ s.size) (hs : s.size ≤ 140737488355328) :
    Calls Tryz.prog 27 #[.pointer (some ⟨R, 0, none⟩)] W fun en W' => en = .returned (.int .u8 (J.nextB s p : Nat)) ∧ Rdr w R s (J.nextP s p) e x W' := by
  obtain ⟨t, ht, cT⟩ := trim_at s p
  obtain ⟨q, hq⟩ : ∃ q, J.nextP s p = q := ⟨_, rfl⟩
  obtain ⟨B, hB⟩ : ∃ B, J.nextB s p = B := ⟨_, rfl⟩
  have hqs : q ≤ s.size := by rw [← hq]; exact J.nextP_le s p
  have hqt : (s.size : Int) - (t.size : Int) = (q : Int) := by
    have h1 : (J.skip (s.data.toList.drop p)).length ≤ s.size := Nat.le_trans (J.skip_length _) (by rw [List.length_drop, ← Lib.size_eq]; omega)
    rw [ht, ← hq]; unfold J.nextP; omega
  have hb : q < s.size → ∃ h : q < s.size, (s[q]'h).toNat = B := fun hlt => ⟨hlt, by subst hq; rw [next_byte]; exact hB⟩
  have he : q = s.size → B = 0 := fun hlt => by subst hq; rw [← hB]; exact next_end hlt
  have HBY := hid hb
  have HEN := hid he
  rw [hq, hB]
  have HT := hid cT
  have HR := hid h
  obtain ⟨c0, c1, c2, c3⟩ := h.cells
  obtain ⟨f0, f1, f2, f3⟩ := h.free
  have e2 : IntKind.i64.wrap (q : Int) = (q : Int) := by rw [IntKind.wrap_i64]; omega
  have P0 : (0 : Int) ≤ (p : Int) := by omega
  have P1 : (p : Int) ≤ (s.size : Int) := by omega
  clear ht cT hq hB hb he h f0 f2 f3 c2 c3
  go_enter Tryz.func27, Tryz.ntmps27
  go_wp2_with fail
  go_region_with (go_at_call 50; refine (HT.out _).mono ?_; rintro en w1 ⟨rfl, bb⟩; (have H1 := hid (HR.out.drew.below bb)); (obtain ⟨d0, d1, g2, -⟩ := H1.out.s4); clear bb)
  all_goals
    clear c0 c1 f1 HR HT
    go_upto_region 2 with fail
    have H2 := hid (H1.out.set1 q)
    generalize World.setCell w1 _ _ = w2 at *
    obtain ⟨c0, c1, c2, c3⟩ := H2.out.cells
    clear d0 d1 g2 H1 c2 c3
    by_cases hqe : q = s.size
    · have t0 : ((q : Int) == (s.size : Int)) = true := by simp [hqe]
      have HE := hid (HEN.out hqe)
      clear hqe HEN HBY
      go_region
      go_wp2_with fail
      go_ret
      exact ⟨by rw [HE.out]; rfl, H2.out.drew⟩
    · have t0 : ((q : Int) == (s.size : Int)) = false := beq_eq_false_iff_ne.2 (by omega)
      obtain ⟨hlt, hb⟩ := HBY.out (by omega)
      have HE := hid hb
      have Q0 : (0 : Int) ≤ (q : Int) := by omega
      have Q1 : (q : Int) < (s.size : Int) := by omega
      clear hqe HEN HBY hb
      go_region
      have H3 := hid H2.out.drew
      obtain ⟨x0, x1, -, -⟩ := H3.out.cells
      clear c0 c1 H2
      generalize World.drew _ = w3 at *
      go_wp2_with fail
      go_region
      go_wp2_with fail
      go_ret
      exact ⟨by rw [← HE.out]; rfl, H3.out.drew⟩
end Go.Proofs.YtphjfighamadgaaGreatDoor
namespace Go.Proofs.YtphjfighamadgaaGreatDoor
open Go.RowKit
open Go.Lib (hid)
theorem Rdr.drewN {w W : World} {R p : Nat} {s : ByteArray} {e x : Int} (h : Rdr w R s p e x W) (n : Nat) : Rdr w R s p e x (W.drewN n) := h.below (below_drewN (Below.refl _ W) n)
/-- how a call of the reader's ends: what was read and where it stands, or the first error and where -/
def Took (w : World) (R : Nat) (s : ByteArray) (x : Except (Nat × Int) (Unit × List UInt8)) (en : Ending) (W : World) : Prop :=
  (∃ r, x = .ok ((), r) ∧ en = .returned (.bool true) ∧ Rdr w R s (s.size - r.length) 0 0 W) ∨ (∃ n er q, x = .error (n, er) ∧ q ≤ s.size ∧ en = .returned (.bool false) ∧ Rdr w R s q er ((s.size - n : Nat) : Int) W)
namespace J
theorem word_end (c : UInt8) (w : List UInt8) : word (c :: w) [] = .error (0, 4) := rfl
theorem word_yes (c : UInt8) (w l : List UInt8) : word (c :: w) (c :: l) = word w l := by rw [word, if_pos rfl]
theorem word_no {c d : UInt8} (w l : List UInt8) (h : d ≠ c) : word (c :: w) (d :: l) = .error (l.length + 1, 4) := by rw [word, if_neg h]
end J
theorem drop_at {s : ByteArray} {q : Nat} (h : q < s.size) : s.data.toList.drop q = s[q] :: s.data.toList.drop (q + 1) := by
  rw [List.drop_eq_getElem_cons (by rw [← Lib.size_eq]; exact h)]; rfl
theorem drop_end {s : ByteArray} {q : Nat} (h : s.size ≤ q) : s.data.toList.drop q = [] := List.drop_eq_nil_of_le (by rw [← Lib.size_eq]; exact h)
theorem drop_len (s : ByteArray) (q : Nat) : (s.data.toList.drop q).length = s.size - q := by rw [List.length_drop, ← Lib.size_eq]
set_option maxRecDepth 100000 in
set_option maxHeartbeats 1000000 in
theorem word_any {w : World} {R p : Nat} {s : ByteArray} (ws : ByteArray) {W : World} (h : Rdr w R s p 0 0 W) (hp : p ≤ s.size) (hs : s.size ≤ 140737488355328) (hws : ws.size ≤ 100) :
    Calls Tryz.prog 42 #[.pointer (some ⟨R, 0, none⟩), .string ws] W (Took w R s (J.word ws.data.toList (s.data.toList.drop p))) := by
  have HR := hid h
  obtain ⟨RES, hRES⟩ : ∃ x, J.word ws.data.toList (s.data.toList.drop p) = x := ⟨_, rfl⟩
  rw [hRES]
  have HE := hid hRES
  clear h hRES
  go_enter Tryz.func42, Tryz.ntmps42
  go_wp2_with fail
  go_loopw [8] (fun vi wr => ∃ i : Nat, i ≤ ws.size ∧ vi = .int .i64 i ∧ p + i ≤ s.size ∧ Hid (Rdr w R s (p + i) 0 0 wr ∧ RES = J.word (ws.data.toList.drop i) (s.data.toList.drop (p + i)))) (fun vi _ => ws.size - (intOf vi).toNat)
  case atStart => exact ⟨0, Nat.zero_le _, rfl, hp, hid ⟨HR.out, HE.out.symm⟩⟩
  case round =>
    obtain ⟨i, hi, rfl, hpi, hI⟩ := hrel
    clear HR HE
    obtain ⟨q, hq⟩ : ∃ q, p + i = q := ⟨_, rfl⟩
    rw [hq] at hpi hI
    have HQ := hid hq
    clear hq
    by_cases hlt : i < ws.size
    · have hl0 : decide ((i : Int) < (ws.size : Int)) = true := by simp; omega
      have hi0 : (0 : Int) ≤ (i : Int) := by omega
      have hi1 : (i : Int) < (ws.size : Int) := by omega
      have hq0 : (0 : Int) ≤ (q : Int) := by omega
      obtain ⟨c0, c1, -, -⟩ := hI.out.1.cells
      have HD := hid (drop_at hlt)
      by_cases hqe : q = s.size
      · have t0 : ((q : Int) == (s.size : Int)) = true := by simp [hqe]
        have HX : Hid (RES = .error (0, 4)) := by
          show _ = _
          rw [hI.out.2, HD.out, drop_end (s := s) (q := q) (by omega), J.word_end]
        have HSZ := hid hqe
        have HB := hid (fun n => bad_any (hI.out.1.drewN n))
        clear hqe hI HD
        go_wp2_with fail
        go_quiet (fail)
        go_wp2_with fail
        refine (HB.out _).mono ?_
        rintro en w1 ⟨rfl, hr⟩
        have H1 := hid hr
        clear hr
        go_wp2_with fail
        go_ret
        exact Or.inr ⟨0, 4, q, HX.out, hpi, rfl, by have := H1.out; rw [show errE 0 4 = 4 from rfl, show errX 0 0 (q : Int) = (q : Int) from rfl] at this; rw [Nat.sub_zero, ← HSZ.out]; exact this⟩
      · have t0 : ((q : Int) == (s.size : Int)) = false := beq_eq_false_iff_ne.2 (by omega)
        have hqs : q < s.size := by omega
        have hq1 : (q : Int) < (s.size : Int) := by omega
        have HD2 := hid (drop_at hqs)
        by_cases hc : s[q] = ws[i]
        · have t1 : ((s[q].toNat : Int) != (ws[i].toNat : Int)) = false := by rw [hc]; simp
          have HX : Hid (RES = J.word (ws.data.toList.drop (i + 1)) (s.data.toList.drop (q + 1))) := by
            show _ = _
            rw [hI.out.2, HD.out, HD2.out, hc, J.word_yes]
          have HR := hid hI.out.1
          clear hqe hI HD HD2 hc
          go_wp2_with fail
          go_quiet (fail)
          have H1 := hid (HR.out.drewN nq)
          obtain ⟨d0, d1, -, -⟩ := H1.out.cells
          obtain ⟨-, g1, -, -⟩ := H1.out.free
          obtain ⟨q', hq'⟩ : ∃ q', q + 1 = q' := ⟨_, rfl⟩
          have e1 : (q : Int) + 1 = (q' : Int) := by omega
          have e2 : IntKind.i64.wrap (q' : Int) = (q' : Int) := by rw [IntKind.wrap_i64]; omega
          have HQ' := hid hq'
          have hq2 : q' ≤ s.size := by omega
          clear hq' c0 c1 HR
          generalize World.drewN wr nq = wn at *
          go_wp2_with fail
          go_roundw
          case rel =>
            have e3 : p + (i + 1) = q' := by have := HQ.out; have := HQ'.out; omega
            exact ⟨i + 1, by omega, by go_num, by omega, hid ⟨by rw [e3]; exact H1.out.set1 q', by rw [e3, HX.out, ← HQ'.out]⟩⟩
          case measure => simp [intOf]; omega
        · have t1 : ((s[q].toNat : Int) != (ws[i].toNat : Int)) = true := by
            rw [bne_iff_ne]
            intro h
            exact hc (UInt8.toNat_inj.1 (by omega))
          have HX : Hid (RES = .error (s.size - q, 4)) := by
            show _ = _
            rw [hI.out.2, HD.out, HD2.out, J.word_no _ _ hc, drop_len, show s.size - (q + 1) + 1 = s.size - q by omega]
          have HB := hid (fun n => bad_any (hI.out.1.drewN n))
          clear hqe hI HD HD2 hc
          go_wp2_with fail
          go_quiet (fail)
          go_wp2_with fail
          refine (HB.out _).mono ?_
          rintro en w1 ⟨rfl, hr⟩
          have H1 := hid hr
          clear hr
          go_wp2_with fail
          go_ret
          exact Or.inr ⟨s.size - q, 4, q, HX.out, hpi, rfl, by have := H1.out; rw [show errE 0 4 = 4 from rfl, show errX 0 0 (q : Int) = (q : Int) from rfl] at this; rw [show s.size - (s.size - q) = q by omega]; exact this⟩
    · have hl0 : decide ((i : Int) < (ws.size : Int)) = false := by simp; omega
      have HX : Hid (RES = .ok ((), s.data.toList.drop q)) := by
        show _ = _
        rw [hI.out.2, drop_end (by omega)]; rfl
      go_wp2_with fail
      go_ret
      exact Or.inl ⟨_, HX.out, rfl, by rw [drop_len, show s.size - (s.size - q) = q by omega]; exact hI.out.1⟩
end Go.Proofs.YtphjfighamadgaaGreatDoor
namespace Go.Proofs.YtphjfighamadgaaGreatDoor
open Go.RowKit
open Go.Lib (hid)
theorem cut_list (s : ByteArray) (n m : Nat) : (s.extract n m).data.toList = (s.data.toList.drop n).take (m - n) := by
  rw [ByteArray.data_extract, Array.toList_extract]
/-- the tables of unicode/utf8, as the row lists them -/
def Tabs (w : World) : Prop := Lib.Utf8Tabs 0 1 w
theorem Tabs.below {B : Nat} {w w' : World} (h : Tabs w) (hb : Below B w w') (h0 : 0 < B) (h1 : 1 < B) : Tabs w' := by
  refine ⟨fun c hc => ?_, fun i hi => ?_⟩
  · rw [hb.cell (p := ⟨0, c, none⟩) h0]; exact h.1 c hc
  · rw [hb.cell (p := ⟨1, 2 * i, none⟩) h1, hb.cell (p := ⟨1, 2 * i + 1, none⟩) h1]; exact h.2 i hi
theorem Tabs.size {w : World} (h : Tabs w) : 0 < w.heap.size ∧ 1 < w.heap.size :=
  ⟨block_lt_of_cell (h.1 0 (by omega)), block_lt_of_cell (h.2 0 (by omega)).1⟩
/-- as long as what lies below B stands, the tables and the sentinels hold what they do -/
structure Ground (B : Nat) (w : World) : Prop where
  errs : ∀ X, Below B w X → Errs X
  tabs : ∀ X, Below B w X → Tabs X
theorem Ground.keep {B : Nat} {w w' : World} (h : Ground B w) (hb : Below B w w') : Ground B w' := ⟨fun X hX => h.errs X (hb.trans hX), fun X hX => h.tabs X (hb.trans hX)⟩
theorem Ground.first {w : World} (hE : Errs w) (hT : Tabs w) : Ground w.heap.size w := ⟨fun _ h => hE.keep h, fun _ h => hT.below h hT.size.1 hT.size.2⟩
theorem Rdr.base {w W : World} {R p B : Nat} {s : ByteArray} {e x : Int} (h : Rdr w R s p e x W) (hB : B ≤ R) : Below B w W :=
  ⟨h.g.os, h.g.tape, h.g.output, h.g.size, fun k hk => h.g.block k (by have := h.lt; omega) (fun e => by have := Option.some.inj e; omega)⟩
theorem bad0 {w : World} {R p : Nat} {s : ByteArray} {W : World} (h : Rdr w R s p 0 0 W) :
    Calls Tryz.prog 28 #[.pointer (some ⟨R, 0, none⟩)] W fun en W' => en = .returned (.bool false) ∧ Rdr w R s p 4 (p : Int) W' := bad_any h
theorem fail0 {w : World} {R p : Nat} {s : ByteArray} (er at_ : Int) {W : World} (h : Rdr w R s p 0 0 W) :
    Calls Tryz.prog 51 #[.pointer (some ⟨R, 0, none⟩), .int .i64 er, .int .i64 at_] W fun en W' => en = .returned (.bool false) ∧ Rdr w R s p er at_ W' := fail_any er at_ h
theorem Rdr.under {w W W' : World} {R p B : Nat} {s : ByteArray} {e x : Int} (h : Rdr w R s p e x W) (b : Below B W W') (hB : w.heap.size ≤ B) : Rdr w R s p e x W' :=
  ⟨⟨b.os.trans h.g.os, b.tape.trans h.g.tape, b.output.trans h.g.output, Nat.le_trans h.g.size b.size, fun k hk hne => (b.block k (by omega)).trans (h.g.block k hk hne)⟩,
    by rw [b.block _ (by have := h.lt; omega)]; exact h.r, h.lt⟩
theorem Rdr.trans {w W W' : World} {R p q : Nat} {s : ByteArray} {e x e' x' : Int} (h : Rdr w R s p e x W) (h' : Rdr W R s q e' x' W') : Rdr w R s q e' x' W' := ⟨h.g.trans h'.g, h'.r, h.lt⟩
theorem Rdr.own {w W : World} {R p : Nat} {s : ByteArray} {e x : Int} (h : Rdr w R s p e x W) : Rdr W R s p e x W := ⟨⟨rfl, rfl, rfl, Nat.le_refl _, fun _ _ _ => rfl⟩, h.r, Go.lt_of_block h.r⟩
end Go.Proofs.YtphjfighamadgaaGreatDoor
namespace Go.Proofs.YtphjfighamadgaaGreatDoor
open Go.RowKit
open Go.Lib (hid)
theorem list6 {l : List UInt8} (h : 6 ≤ l.length) : ∃ a b c d e f r, l = a :: b :: c :: d :: e :: f :: r := by
  match l, h with
  | a :: b :: c :: d :: e :: f :: r, _ => exact ⟨a, b, c, d, e, f, r, rfl⟩
theorem asc_signs : Asc ⟨#[43, 45, 95]⟩ := by
  intro j b h
  have hm := List.mem_of_getElem? h
  have : (⟨#[43, 45, 95]⟩ : ByteArray).data.toList = [43, 45, 95] := rfl
  rw [this] at hm
  simp only [List.mem_cons, List.not_mem_nil, or_false] at hm
  rcases hm with rfl | rfl | rfl <;> decide
theorem Rdr.unit {w W W' : World} {R p : Nat} {s : ByteArray} {e x : Int} (h : Rdr w R s p e x W) (hb : Below W.heap.size W W') : Rdr w R s p e x W' := h.below hb
set_option maxRecDepth 100000 in
set_option maxHeartbeats 4000000 in
theorem unit_any {w : World} {B R p : Nat} {s : ByteArray} {e x : Int} (a : Nat) {W : World} (h : Rdr w R s p e x W) (_ha : a ≤ 200000000000000) (_hs : s.size ≤ 140737488355328) (hG : Ground B w) (hBR : B ≤ R) :
    Calls Tryz.prog 88 #[.pointer (some ⟨R, 0, none⟩), .int .i64 a] W fun en W' => en = .returned (.int .i32 (J.u6 (s.data.toList.drop a))) ∧ Below W.heap.size W W' := by
  obtain ⟨RES, hRES⟩ : ∃ x, J.u6 (s.data.toList.drop a) = x := ⟨_, rfl⟩
  rw [hRES]
  obtain ⟨c0, -, -, -⟩ := h.cells
  have HG := hid (fun X (hX : Below W.heap.size W X) => hG.errs X ((h.base hBR).trans (hX.mono (by have := h.g.size; have := h.lt; omega))))
  clear h hG
  obtain ⟨m, hm⟩ : ∃ m, m = min a s.size := ⟨_, rfl⟩
  have hmi : min (a : Int) (s.size : Int) = (m : Int) := by omega
  have m0 : (0 : Int) ≤ (m : Int) := by omega
  have m1 : (m : Int) ≤ (s.size : Int) := by omega
  obtain ⟨q, hq⟩ : ∃ q, s.extract m s.size = q := ⟨_, rfl⟩
  have hl : q.data.toList = s.data.toList.drop a := by
    rw [← hq, Lib.extract_to_end]
    rcases Nat.lt_or_ge s.size a with h | h
    · rw [drop_end (show s.size ≤ m by omega), drop_end (by omega)]
    · rw [show m = a by omega]
  have hqz : q.size = (s.data.toList.drop a).length := by rw [← hl, ← Lib.size_eq]
  by_cases h6 : q.size < 6
  · have t0 : decide ((q.size : Int) < 6) = true := by simp; omega
    have HE : Hid (RES = -1) := by
      show _ = _
      rw [← hRES, J.u6_short (by omega)]
    clear hRES hl hm hqz
    go_enter Tryz.func88, Tryz.ntmps88
    go_wp2_with fail
    go_quiet (fail)
    go_wp2_with fail
    go_ret
    exact ⟨by rw [HE.out]; rfl, below_drewN (Below.refl _ _) _⟩
  · have t0 : decide ((q.size : Int) < 6) = false := by simp; omega
    have q2 : (2 : Int) ≤ (q.size : Int) := by omega
    have q6 : (6 : Int) ≤ (q.size : Int) := by omega
    obtain ⟨x0, x1, x2, x3, x4, x5, r, hx⟩ := list6 (l := s.data.toList.drop a) (by omega)
    have e2 : q.extract 0 2 = ⟨#[x0, x1]⟩ := ByteArray.ext (Array.ext' (by rw [cut_list, hl, hx]; rfl))
    have e4 : q.extract 2 6 = ⟨#[x2, x3, x4, x5]⟩ := ByteArray.ext (Array.ext' (by rw [cut_list, hl, hx]; rfl))
    rw [hx] at hRES
    by_cases hu : x0 = 92 ∧ x1 = 117
    · obtain ⟨rfl, rfl⟩ := hu
      rw [J.u6_yes] at hRES
      obtain ⟨t, ht⟩ : ∃ t, q.extract 2 6 = t := ⟨_, rfl⟩
      have t4 : t.size = 4 := by rw [← ht, e4]; rfl
      have tl : t.data.toList = [x2, x3, x4, x5] := by rw [← ht, e4]
      have cC := fun X => containsAny_short t ⟨#[43, 45, 95]⟩ asc_signs (by decide) (by decide) (by omega) X
      have cP := fun X (hX : Below W.heap.size W X) => parseHex4_any t t4 X (HG.out X hX)
      rw [tl, J.hexP_four r] at cP
      have HS : Hid ((∃ (i : Nat) (h : i < t.size), t[i] ∈ (⟨#[43, 45, 95]⟩ : ByteArray).data.toList) → RES = -1) := by
        rintro ⟨i, hi, hmem⟩
        rw [← hRES]
        have hmem' : ∃ y, y ∈ [x2, x3, x4, x5] ∧ y ∈ [(43 : UInt8), 45, 95] := ⟨t[i], by rw [← tl]; exact List.mem_of_getElem? (Lib.data_getElem? t i hi), hmem⟩
        obtain ⟨y, hy, hy'⟩ := hmem'
        have hn := J.hexV_sign hy'
        unfold J.fourI
        rw [J.four_sign r (by
          simp only [List.mem_cons, List.not_mem_nil, or_false] at hy
          rcases hy with rfl | rfl | rfl | rfl
          · exact Or.inl hn
          · exact Or.inr (Or.inl hn)
          · exact Or.inr (Or.inr (Or.inl hn))
          · exact Or.inr (Or.inr (Or.inr hn)))]
      have HR := hid hRES
      have HCP := hid cP
      clear hRES hl hx tl e4 hm hqz cP h6 HG
      go_enter Tryz.func88, Tryz.ntmps88
      go_wp2_with fail
      go_quiet (fail)
      have HB0 := hid (below_drewN (Below.refl W.heap.size W) nq)
      clear c0
      generalize World.drewN W nq = w1 at *
      go_wp2_with fail
      refine (cC _).mono ?_
      rintro en w2 ⟨⟨v, rfl, hv⟩, hb⟩
      have HV := hid hv
      have HB1 := hid (HB0.out.trans (hb.mono HB0.out.size))
      clear hv hb HB0
      cases v
      · clear HV HS
        go_wp2_with fail
        refine (HCP.out _ HB1.out).mono ?_
        cases hf : J.four (x2 :: x3 :: x4 :: x5 :: r) with
        | none =>
          rintro en w3 ⟨⟨N, rfl⟩, hb⟩
          have HE : Hid (RES = -1) := by
            show _ = _
            rw [← HR.out]; unfold J.fourI; rw [hf]
          have HB2 := hid (HB1.out.trans (hb.mono HB1.out.size))
          clear hf HR HCP hb
          go_wp2_with fail
          go_ret
          exact ⟨by rw [HE.out]; rfl, HB2.out⟩
        | some v =>
          rintro en w3 ⟨rfl, hb⟩
          have hE : (v : Int) = RES := by
            rw [← HR.out]; unfold J.fourI; rw [hf]
          have hlt := J.fourI_lt (x2 :: x3 :: x4 :: x5 :: r)
          rw [HR.out, ← hE] at hlt
          have v0 : (0 : Int) ≤ (v : Int) := by omega
          have v1 : (v : Int) ≤ 65535 := by omega
          have HB2 := hid (HB1.out.trans (hb.mono HB1.out.size))
          have HE := hid hE
          clear hf HR HCP hb hlt hE
          go_wp2_with fail
          go_ret
          exact ⟨by rw [← HE.out]; rfl, HB2.out⟩
      · have HE : Hid (RES = -1) := HS.out (HV.out rfl)
        clear HV HS HCP HR
        go_wp2_with fail
        go_ret
        exact ⟨by rw [HE.out]; rfl, HB1.out⟩
    · have t1 : ((q.extract 0 2).toList == [92, 117]) = false := by
        rw [beq_eq_false_iff_ne, e2, Lib.toList_data]
        intro h
        have h' : [x0, x1] = [92, 117] := h
        simp only [List.cons.injEq, and_true] at h'
        exact hu h'
      have HE : Hid (RES = -1) := by
        show _ = _
        rw [← hRES, J.u6_not hu]
      clear hRES hl hx e2 e4 hm hqz hu
      go_enter Tryz.func88, Tryz.ntmps88
      go_wp2_with fail
      go_quiet (fail)
      go_wp2_with fail
      go_ret
      exact ⟨by rw [HE.out]; rfl, below_drewN (Below.refl _ _) _⟩
end Go.Proofs.YtphjfighamadgaaGreatDoor
namespace Go.Proofs.YtphjfighamadgaaGreatDoor
namespace J
/-- U: the unit that begins with the backslash, L: the one behind it; n: how much is left where it falls -/
def escU (U L : Int) (n : Nat) (r6 r12 : List UInt8) : Res (List UInt8) :=
  if U < 0 then .error (n, 4)
  else if 55296 ≤ U ∧ U ≤ 56319 then (if 56320 ≤ L ∧ L ≤ 57343 then .ok (W.charL (65536 + (U - 55296) * 1024 + L - 56320), r12) else .error (n, 4))
  else if 56320 ≤ U ∧ U ≤ 57343 then .error (n, 4)
  else .ok (W.charL U, r6)
theorem fourI_some {r : List UInt8} {v : Nat} (h : four r = some v) : fourI r = (v : Int) := by unfold fourI; rw [h]
theorem fourI_none {r : List UInt8} (h : four r = none) : fourI r = -1 := by unfold fourI; rw [h]
theorem ok_plain {v : Nat} (h : v ≤ 65535) (h1 : ¬ (55296 ≤ v ∧ v ≤ 57343)) : W.charOk (v : Int) = true := by
  simp only [W.charOk, Bool.or_eq_true, decide_eq_true_eq]; omega
theorem ok_pair {v lo : Int} (h : 55296 ≤ v ∧ v ≤ 56319) (h1 : 56320 ≤ lo ∧ lo ≤ 57343) : W.charOk (65536 + (v - 55296) * 1024 + lo - 56320) = true := by
  simp only [W.charOk, Bool.or_eq_true, decide_eq_true_eq]; omega
theorem ok_half {v : Nat} (h : 56320 ≤ v ∧ v ≤ 57343) : W.charOk (v : Int) = false := by
  rw [Bool.eq_false_iff]
  simp only [W.charOk, ne_eq, Bool.or_eq_true, decide_eq_true_eq]; omega
theorem unit_pair {r : List UInt8} {v : Nat} (hf : four r = some v) (h1 : 55296 ≤ v ∧ v ≤ 56319) : unit r = if 56320 ≤ u6 (r.drop 4) ∧ u6 (r.drop 4) ≤ 57343 then some (65536 + ((v : Int) - 55296) * 1024 + u6 (r.drop 4) - 56320, (r.drop 4).drop 6) else none := by
  unfold unit
  rw [hf]
  simp only
  rw [if_pos h1]
  generalize r.drop 4 = m
  split
  · rename_i r2
    rw [u6_yes]
    cases hf2 : four r2 with
    | none => rw [fourI_none hf2]; rfl
    | some lo =>
      rw [fourI_some hf2]
      simp only
      by_cases h2 : 56320 ≤ lo ∧ lo ≤ 57343
      · rw [if_pos h2, if_pos (show 56320 ≤ (lo : Int) ∧ (lo : Int) ≤ 57343 by omega)]; rfl
      · rw [if_neg h2, if_neg (show ¬ (56320 ≤ (lo : Int) ∧ (lo : Int) ≤ 57343) by omega)]
  · rename_i hno
    have e : u6 m = -1 := by
      unfold u6
      split
      · rename_i r2
        exact absurd rfl (hno r2)
      · rfl
    rw [e]; rfl
theorem esc_u {l : List UInt8} {t : List UInt8} (hl : l = 92 :: t) (hs : ∀ c r, t = c :: r → sign c = none) : esc l = escU (u6 l) (u6 (l.drop 6)) l.length (l.drop 6) (l.drop 12) := by
  subst hl
  unfold esc
  rw [show (92 :: t).drop 1 = t from rfl]
  cases t with
  | nil => rfl
  | cons c r =>
    simp only
    rw [hs c r rfl]
    simp only
    by_cases hc : c = 117
    · subst hc
      rw [if_pos rfl, u6_yes, show (92 :: 117 :: r).drop 6 = r.drop 4 from rfl, show (92 :: 117 :: r).drop 12 = r.drop 10 from rfl]
      cases hf : four r with
      | none => rw [fourI_none hf]; unfold unit; rw [hf]; rfl
      | some v =>
        have hv := four_lt hf
        rw [fourI_some hf]
        unfold escU
        rw [if_neg (show ¬ ((v : Int) < 0) by omega)]
        by_cases h1 : 55296 ≤ v ∧ v ≤ 56319
        · rw [if_pos (show 55296 ≤ (v : Int) ∧ (v : Int) ≤ 56319 by omega)]
          rw [unit_pair hf h1]
          by_cases h2 : 56320 ≤ u6 (r.drop 4) ∧ u6 (r.drop 4) ≤ 57343
          · rw [if_pos h2, if_pos h2]
            simp only
            rw [if_pos (ok_pair (by omega) h2), List.drop_drop]
          · rw [if_neg h2, if_neg h2]
        · rw [show unit r = some ((v : Int), r.drop 4) by unfold unit; rw [hf]; simp only; rw [if_neg h1], if_neg (show ¬ (55296 ≤ (v : Int) ∧ (v : Int) ≤ 56319) by omega)]
          simp only
          by_cases h2 : 56320 ≤ v ∧ v ≤ 57343
          · rw [ok_half h2, if_pos (show 56320 ≤ (v : Int) ∧ (v : Int) ≤ 57343 by omega)]; rfl
          · rw [ok_plain hv (by omega), if_neg (show ¬ (56320 ≤ (v : Int) ∧ (v : Int) ≤ 57343) by omega)]; rfl
    · rw [if_neg hc, u6_not (by intro h; exact hc h.2)]; rfl
theorem esc_sign {c d : UInt8} {r : List UInt8} (h : sign c = some d) : esc (92 :: c :: r) = .ok ([d], r) := by
  unfold esc
  rw [show (92 :: c :: r).drop 1 = c :: r from rfl]
  simp only
  rw [h]
/-- the signs by their places -/
theorem sign_at {c d : UInt8} (h : sign c = some d) : ∃ i : Nat, i < 8 ∧ [(34 : UInt8), 92, 47, 98, 102, 110, 114, 116][i]? = some c ∧ [(34 : UInt8), 92, 47, 8, 12, 10, 13, 9][i]? = some d ∧ Lib.indexByte [34, 92, 47, 98, 102, 110, 114, 116] c = (i : Int) := by
  unfold sign at h
  split at h
  · rename_i e; subst e; cases h; exact ⟨0, by omega, rfl, rfl, by decide⟩
  split at h
  · rename_i e; subst e; cases h; exact ⟨1, by omega, rfl, rfl, by decide⟩
  split at h
  · rename_i e; subst e; cases h; exact ⟨2, by omega, rfl, rfl, by decide⟩
  split at h
  · rename_i e; subst e; cases h; exact ⟨3, by omega, rfl, rfl, by decide⟩
  split at h
  · rename_i e; subst e; cases h; exact ⟨4, by omega, rfl, rfl, by decide⟩
  split at h
  · rename_i e; subst e; cases h; exact ⟨5, by omega, rfl, rfl, by decide⟩
  split at h
  · rename_i e; subst e; cases h; exact ⟨6, by omega, rfl, rfl, by decide⟩
  split at h
  · rename_i e; subst e; cases h; exact ⟨7, by omega, rfl, rfl, by decide⟩
  · cases h
theorem sign_none {c : UInt8} (h : sign c = none) : Lib.indexByte [34, 92, 47, 98, 102, 110, 114, 116] c = -1 := by
  have hall : ∀ n : Fin 256, sign (UInt8.ofNat n.val) = none → Lib.indexByte [34, 92, 47, 98, 102, 110, 114, 116] (UInt8.ofNat n.val) = -1 := by decide +kernel
  have := hall ⟨c.toNat, c.toNat_lt⟩
  simp only [UInt8.ofNat_toNat] at this
  exact this h
end J
end Go.Proofs.YtphjfighamadgaaGreatDoor
