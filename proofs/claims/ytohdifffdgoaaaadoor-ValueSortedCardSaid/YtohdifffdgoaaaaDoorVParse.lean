/- The walks of Parse: the program's and the document's. -/
import Derived.Test.YtohdifffdgoaaaaDoorVText
import Derived.Test.YtohdifffdgoaaaaDoorWPlainO
namespace Go.Proofs.YtohdifffdgoaaaaDoor
open Go.RowKit
open Go.Lib (hid itoa)
open V
namespace V
def zeroV : Val := ⟨0, 0, false, ⟨#[]⟩⟩
/-- the value of a text, and the error -/
noncomputable def parseP (kind : Nat) (s : ByteArray) : Val × Int :=
  if kind = 1 then (if (W.parseW s.data.toList).2 = true then (⟨1, (W.parseW s.data.toList).1, false, ⟨#[]⟩⟩, 0) else (zeroV, 4))
  else if kind = 2 then (if s.data.toList = trueL then (⟨2, 0, true, ⟨#[]⟩⟩, 0) else if s.data.toList = falseL then (⟨2, 0, false, ⟨#[]⟩⟩, 0) else (zeroV, 4))
  else if kind = 3 then (if (W.unqL s.data.toList).2 = true ∧ ok ⟨3, 0, false, ⟨(W.unqL s.data.toList).1.toArray⟩⟩ = true then (⟨3, 0, false, ⟨(W.unqL s.data.toList).1.toArray⟩⟩, 0) else (zeroV, 4))
  else (zeroV, 1)
theorem ok_num (n : Int) : ok ⟨1, n, false, ⟨#[]⟩⟩ = true := rfl
theorem ok_tru (b : Bool) : ok ⟨2, 0, b, ⟨#[]⟩⟩ = true := rfl
theorem ok_empty : ok ⟨3, 0, false, ⟨#[]⟩⟩ = true := rfl
theorem text_num (n : Int) : textL ⟨1, n, false, ⟨#[]⟩⟩ = itoa n := rfl
theorem text_tru (b : Bool) : textL ⟨2, 0, b, ⟨#[]⟩⟩ = if b then trueL else falseL := rfl
theorem text_txt (s : ByteArray) (h : ok ⟨3, 0, false, s⟩ = true) : textL ⟨3, 0, false, s⟩ = W.quoteL s.data.toList := by
  unfold textL
  rw [if_neg (by simp [h])]; rfl
theorem parse_fits (l : List UInt8) : W.Fits (W.parseW l).1 := by
  cases h : W.parseW l with
  | mk c q =>
    cases q
    · have : c = 0 := by
        unfold W.parseW at h
        cases hp : W.libP l with
        | none => rw [hp] at h; simp only [W.holdTo, Prod.mk.injEq] at h; exact h.1.symm
        | some n =>
          rw [hp] at h
          simp only [W.holdTo] at h
          split at h
          · simp at h
          · simp only [Prod.mk.injEq] at h; exact h.1.symm
      subst this
      unfold W.Fits; simp
    · exact (W.parse_true l c h).2
theorem num_back (l : List UInt8) : decide (itoa (W.parseW l).1 = l) = (W.parseW l).2 := by
  have hf := parse_fits l
  cases h : (W.parseW l).2
  · rw [decide_eq_false_iff_not]
    intro e
    have := W.parse_itoa _ hf
    rw [e] at this
    rw [this] at h; cases h
  · rw [decide_eq_true_eq]
    exact (W.parse_true l _ (by rw [← h])).1
theorem unq_not {l : List UInt8} (h : (W.unqL l).2 = false) : (W.unqL l).1 = [] ∧ W.quoteL [] ≠ l := by
  constructor
  · by_cases hq : ∃ t, W.quoteL t = l
    · obtain ⟨t, ht⟩ := hq
      rw [W.unqL_of ht] at h; cases h
    · rw [W.unqL_no fun t e => hq ⟨t, e⟩]
  · intro e
    rw [W.unqL_of e] at h; cases h
theorem unq_yes {l : List UInt8} (h : (W.unqL l).2 = true) : W.quoteL (W.unqL l).1 = l := by
  by_cases hq : ∃ t, W.quoteL t = l
  · obtain ⟨t, ht⟩ := hq
    rw [W.unqL_of ht]; exact ht
  · rw [W.unqL_no fun t e => hq ⟨t, e⟩] at h; cases h
end V
theorem list_dec (l m : List UInt8) : (l == m) = decide (l = m) := by
  by_cases h : l = m
  · subst h; simp
  · rw [decide_eq_false h, beq_eq_false_iff_ne]; exact h
/-- two values of the call's own -/
structure TV (X Y : Val) (w r : World) : Prop where
  hb : Below w.heap.size w r
  fx : r.heap[w.heap.size]? = some (.cells #[.int .u8 X.k, .int .i64 X.n, .bool X.b, .string X.s] 23 (0, 0))
  fy : r.heap[w.heap.size + 1]? = some (.cells #[.int .u8 Y.k, .int .i64 Y.n, .bool Y.b, .string Y.s] 23 (0, 0))
theorem TV.below {X Y : Val} {w r r' : World} (h : TV X Y w r) (b : Below r.heap.size r r') : TV X Y w r' where
  hb := h.hb.trans (b.mono h.hb.size)
  fx := (b.block _ (Go.lt_of_block h.fx)).trans h.fx
  fy := (b.block _ (Go.lt_of_block h.fy)).trans h.fy
theorem oth4_set {w : World} {b c : Nat} (hc : c ≠ b) (x y z u : Value) : ((((w.setCell ⟨b, 0, none⟩ x).setCell ⟨b, 1, none⟩ y).setCell ⟨b, 2, none⟩ z).setCell ⟨b, 3, none⟩ u).heap[c]? = w.heap[c]? := by
  rw [Below.heap_setCell _ _ _ _ hc, Below.heap_setCell _ _ _ _ hc, Below.heap_setCell _ _ _ _ hc, Below.heap_setCell _ _ _ _ hc]
theorem TV.setX {X Y : Val} {w r : World} (h : TV X Y w r) (V : Val) : TV V Y w ((((r.setCell ⟨w.heap.size, 0, none⟩ (.int .u8 V.k)).setCell ⟨w.heap.size, 1, none⟩ (.int .i64 V.n)).setCell ⟨w.heap.size, 2, none⟩ (.bool V.b)).setCell ⟨w.heap.size, 3, none⟩ (.string V.s)) where
  hb := below4_set h.hb (Nat.le_refl _) _ _ _ _
  fx := row4_set h.fx _ _ _ _
  fy := (oth4_set (by omega) _ _ _ _).trans h.fy
theorem TV.setY {X Y : Val} {w r : World} (h : TV X Y w r) (V : Val) : TV X V w ((((r.setCell ⟨w.heap.size + 1, 0, none⟩ (.int .u8 V.k)).setCell ⟨w.heap.size + 1, 1, none⟩ (.int .i64 V.n)).setCell ⟨w.heap.size + 1, 2, none⟩ (.bool V.b)).setCell ⟨w.heap.size + 1, 3, none⟩ (.string V.s)) where
  hb := below4_set h.hb (by omega) _ _ _ _
  fx := (oth4_set (by omega) _ _ _ _).trans h.fx
  fy := row4_set h.fy _ _ _ _
theorem TV.set1 {X Y : Val} {w r : World} (h : TV X Y w r) (i : Nat) (v : Value) (V : Val) (hV : (#[.int .u8 Y.k, .int .i64 Y.n, .bool Y.b, .string Y.s] : Array Value).setIfInBounds i v = #[.int .u8 V.k, .int .i64 V.n, .bool V.b, .string V.s]) : TV X V w (r.setCell ⟨w.heap.size + 1, i, none⟩ v) where
  hb := h.hb.setCell (p := ⟨w.heap.size + 1, i, none⟩) (by simp) v
  fx := (Below.heap_setCell _ _ _ _ (by simp)).trans h.fx
  fy := by rw [← hV]; exact row_set h.fy i v
theorem TV.new (V : Val) (w : World) : TV zeroV V w ((w.alloc (.cells #[.int .u8 0, .int .i64 0, .bool false, .string ⟨#[]⟩] 23)).alloc (.cells #[.int .u8 V.k, .int .i64 V.n, .bool V.b, .string V.s] 23)) where
  hb := grown2 w _ _
  fx := (fresh2 w _ _).1
  fy := (fresh2 w _ _).2

set_option maxRecDepth 100000 in
set_option maxHeartbeats 4000000 in
theorem parse1_yes (s : ByteArray) (w : World) (hE : VEnv w) (hs : s.size ≤ 17592186044416) (hq : (W.parseW s.data.toList).2 = true) :
    Calls Tryd.prog 32 #[.int .u8 1, .string s] w fun e w' => e = .returned (.tuple #[.agg #[.int .u8 1, .int .i64 (W.parseW s.data.toList).1, .bool false, .string ⟨#[]⟩], .int .i64 0]) ∧ Below w.heap.size w w' := by
  have cP := fun X (hX : VEnv X) => parse_any s X (by omega) hX.nums.errs hX.nums.pows hX.nums.lts.1
  have hF := parse_fits s.data.toList
  have hB := num_back s.data.toList
  unfold W.Fits at hF
  obtain ⟨n, hn⟩ : ∃ n, (W.parseW s.data.toList).1 = n := ⟨_, rfl⟩
  obtain ⟨q, hq'⟩ : ∃ q, (W.parseW s.data.toList).2 = q := ⟨_, rfl⟩
  rw [hn, hq'] at cP
  rw [hn, hq] at hB
  rw [hn] at hF
  have hok := ok_num n
  have heq := hB
  rw [← text_num] at heq
  have cN := vnumber_any n
  simp only [hn]
  clear hB hn hq' hq
  have cC := fun X (hX : Tabs X) => check_any 1 (n) false ⟨#[]⟩ X hX
  rw [show okE ⟨1, n, false, ⟨#[]⟩⟩ = 0 by simp [okE, hok]] at cC
  have cT := fun X (hX : VEnv X) => textV ⟨1, n, false, ⟨#[]⟩⟩ X hX (by simp only; omega) (by simp only; omega)
  obtain ⟨T, hT⟩ : ∃ T : ByteArray, (⟨(textL ⟨1, n, false, ⟨#[]⟩⟩).toArray⟩ : ByteArray) = T := ⟨_, rfl⟩
  rw [hT] at cT
  have q0 : (T.toList == s.toList) = true := by
    rw [Lib.toList_data, Lib.toList_data, list_dec, ← hT]
    exact heq
  have HE := hid hE
  clear hE hok hT heq
  go_enter Tryd.func32, Tryd.ntmps32
  go_upto_region 2 with fail
  generalize hr0 : World.alloc (World.alloc w _) _ = r00
  have HV : Hid (TV zeroV zeroV w r00) := by
    rw [← hr0]
    exact TV.new zeroV w
  clear hr0
  go_wp2_with fail
  refine (cP _ (HE.out.below HV.out.hb)).mono ?_
  rintro e w' ⟨rfl, bb⟩
  have HV' := hid (HV.out.below bb)
  clear bb HV cP
  have HV := hid HV'.out
  clear HV'
  go_wp2_with fail
  refine (cN _).mono ?_
  rintro e w' ⟨rfl, bb⟩
  have HV' := hid (HV.out.below bb)
  clear bb HV cN
  have HV := hid HV'.out
  clear HV'
  obtain ⟨y0, y1, y2, y3⟩ := row4 HV.out.fy
  obtain ⟨e0, e1, e2, e3⟩ := free4 HV.out.fy
  go_upto_region 12 with fail
  have HV' := hid (HV.out.setY ⟨1, n, false, ⟨#[]⟩⟩)
  clear HV y0 y1 y2 y3 e0 e1 e2 e3
  have HV := hid HV'.out
  clear HV'
  generalize World.setCell _ _ _ = r0 at *
  obtain ⟨y0, y1, y2, y3⟩ := row4 HV.out.fy
  go_wp2_with fail
  refine (cC _ (HE.out.below HV.out.hb).tabs).mono ?_
  rintro e w' ⟨rfl, bb⟩
  have HV' := hid (HV.out.below bb)
  clear bb HV y0 y1 y2 y3 cC
  have HV := hid HV'.out
  clear HV'
  obtain ⟨y0, y1, y2, y3⟩ := row4 HV.out.fy
  go_wp2_with fail
  refine (cT _ (HE.out.below HV.out.hb)).mono ?_
  rintro e w' ⟨rfl, bb⟩
  have HV' := hid (HV.out.below bb)
  clear bb HV y0 y1 y2 y3 cT
  have HV := hid HV'.out
  clear HV'
  obtain ⟨y0, y1, y2, y3⟩ := row4 HV.out.fy
  obtain ⟨x0, x1, x2, x3⟩ := row4 HV.out.fx
  obtain ⟨e0, e1, e2, e3⟩ := free4 HV.out.fx
  go_wp2_with fail
  exact bodyPost_ret (v := .tuple #[.agg #[.int .u8 1, .int .i64 n, .bool false, .string ⟨#[]⟩], .int .i64 0]) (results_pair rfl _ _ w.heap.size 23 _ (0, 0) _ (.int .i64 0) rfl (HV.out.setX ⟨1, n, false, ⟨#[]⟩⟩).fx (by rfl) Tryd.underlying23 rfl infoValue) rfl ⟨rfl, (HV.out.setX ⟨1, n, false, ⟨#[]⟩⟩).hb⟩

set_option maxRecDepth 100000 in
set_option maxHeartbeats 4000000 in
theorem parse1_no (s : ByteArray) (w : World) (hE : VEnv w) (hs : s.size ≤ 17592186044416) (hq : (W.parseW s.data.toList).2 = false) :
    Calls Tryd.prog 32 #[.int .u8 1, .string s] w fun e w' => e = .returned (.tuple #[.agg #[.int .u8 0, .int .i64 0, .bool false, .string ⟨#[]⟩], .int .i64 4]) ∧ Below w.heap.size w w' := by
  have cP := fun X (hX : VEnv X) => parse_any s X (by omega) hX.nums.errs hX.nums.pows hX.nums.lts.1
  have hF := parse_fits s.data.toList
  have hB := num_back s.data.toList
  unfold W.Fits at hF
  obtain ⟨n, hn⟩ : ∃ n, (W.parseW s.data.toList).1 = n := ⟨_, rfl⟩
  obtain ⟨q, hq'⟩ : ∃ q, (W.parseW s.data.toList).2 = q := ⟨_, rfl⟩
  rw [hn, hq'] at cP
  rw [hn, hq] at hB
  rw [hn] at hF
  have hok := ok_num n
  have heq := hB
  rw [← text_num] at heq
  have cN := vnumber_any n
  clear hB hn hq' hq
  have cC := fun X (hX : Tabs X) => check_any 1 (n) false ⟨#[]⟩ X hX
  rw [show okE ⟨1, n, false, ⟨#[]⟩⟩ = 0 by simp [okE, hok]] at cC
  have cT := fun X (hX : VEnv X) => textV ⟨1, n, false, ⟨#[]⟩⟩ X hX (by simp only; omega) (by simp only; omega)
  obtain ⟨T, hT⟩ : ∃ T : ByteArray, (⟨(textL ⟨1, n, false, ⟨#[]⟩⟩).toArray⟩ : ByteArray) = T := ⟨_, rfl⟩
  rw [hT] at cT
  have q0 : (T.toList == s.toList) = false := by
    rw [Lib.toList_data, Lib.toList_data, list_dec, ← hT]
    exact heq
  have HE := hid hE
  clear hE hok hT heq
  go_enter Tryd.func32, Tryd.ntmps32
  go_upto_region 2 with fail
  generalize hr0 : World.alloc (World.alloc w _) _ = r00
  have HV : Hid (TV zeroV zeroV w r00) := by
    rw [← hr0]
    exact TV.new zeroV w
  clear hr0
  go_wp2_with fail
  refine (cP _ (HE.out.below HV.out.hb)).mono ?_
  rintro e w' ⟨rfl, bb⟩
  have HV' := hid (HV.out.below bb)
  clear bb HV cP
  have HV := hid HV'.out
  clear HV'
  go_wp2_with fail
  refine (cN _).mono ?_
  rintro e w' ⟨rfl, bb⟩
  have HV' := hid (HV.out.below bb)
  clear bb HV cN
  have HV := hid HV'.out
  clear HV'
  obtain ⟨y0, y1, y2, y3⟩ := row4 HV.out.fy
  obtain ⟨e0, e1, e2, e3⟩ := free4 HV.out.fy
  go_upto_region 12 with fail
  have HV' := hid (HV.out.setY ⟨1, n, false, ⟨#[]⟩⟩)
  clear HV y0 y1 y2 y3 e0 e1 e2 e3
  have HV := hid HV'.out
  clear HV'
  generalize World.setCell _ _ _ = r0 at *
  obtain ⟨y0, y1, y2, y3⟩ := row4 HV.out.fy
  go_wp2_with fail
  refine (cC _ (HE.out.below HV.out.hb).tabs).mono ?_
  rintro e w' ⟨rfl, bb⟩
  have HV' := hid (HV.out.below bb)
  clear bb HV y0 y1 y2 y3 cC
  have HV := hid HV'.out
  clear HV'
  obtain ⟨y0, y1, y2, y3⟩ := row4 HV.out.fy
  go_wp2_with fail
  refine (cT _ (HE.out.below HV.out.hb)).mono ?_
  rintro e w' ⟨rfl, bb⟩
  have HV' := hid (HV.out.below bb)
  clear bb HV y0 y1 y2 y3 cT
  have HV := hid HV'.out
  clear HV'
  obtain ⟨y0, y1, y2, y3⟩ := row4 HV.out.fy
  obtain ⟨x0, x1, x2, x3⟩ := row4 HV.out.fx
  obtain ⟨e0, e1, e2, e3⟩ := free4 HV.out.fx
  go_wp2_with fail
  exact bodyPost_ret (v := .tuple #[.agg #[.int .u8 0, .int .i64 0, .bool false, .string ⟨#[]⟩], .int .i64 4]) (results_pair rfl _ _ w.heap.size 23 _ (0, 0) _ (.int .i64 4) rfl (HV.out.setX ⟨0, 0, false, ⟨#[]⟩⟩).fx (by rfl) Tryd.underlying23 rfl infoValue) rfl ⟨rfl, (HV.out.setX ⟨0, 0, false, ⟨#[]⟩⟩).hb⟩

set_option maxRecDepth 100000 in
set_option maxHeartbeats 4000000 in
theorem parse2_yes (s : ByteArray) (w : World) (hE : VEnv w) (_ : s.size ≤ 17592186044416) (b : Bool) (hb : decide (s.data.toList = trueL) = b) (heq : decide (textL ⟨2, 0, b, ⟨#[]⟩⟩ = s.data.toList) = true) :
    Calls Tryd.prog 32 #[.int .u8 2, .string s] w fun e w' => e = .returned (.tuple #[.agg #[.int .u8 2, .int .i64 0, .bool b, .string ⟨#[]⟩], .int .i64 0]) ∧ Below w.heap.size w w' := by
  have hq : (s.toList == [116, 114, 117, 101]) = b := by rw [Lib.toList_data, list_dec]; exact hb
  have hok := ok_tru b
  have cN := truth_any b
  clear hb
  have cC := fun X (hX : Tabs X) => check_any 2 (0) b ⟨#[]⟩ X hX
  rw [show okE ⟨2, 0, b, ⟨#[]⟩⟩ = 0 by simp [okE, hok]] at cC
  have cT := fun X (hX : VEnv X) => textV ⟨2, 0, b, ⟨#[]⟩⟩ X hX (by simp only; omega) (by simp only; omega)
  obtain ⟨T, hT⟩ : ∃ T : ByteArray, (⟨(textL ⟨2, 0, b, ⟨#[]⟩⟩).toArray⟩ : ByteArray) = T := ⟨_, rfl⟩
  rw [hT] at cT
  have q0 : (T.toList == s.toList) = true := by
    rw [Lib.toList_data, Lib.toList_data, list_dec, ← hT]
    exact heq
  have HE := hid hE
  clear hE hok hT heq
  go_enter Tryd.func32, Tryd.ntmps32
  go_upto_region 2 with fail
  generalize hr0 : World.alloc (World.alloc w _) _ = r00
  have HV : Hid (TV zeroV zeroV w r00) := by
    rw [← hr0]
    exact TV.new zeroV w
  clear hr0
  go_wp2_with fail
  refine (cN _).mono ?_
  rintro e w' ⟨rfl, bb⟩
  have HV' := hid (HV.out.below bb)
  clear bb HV cN
  have HV := hid HV'.out
  clear HV'
  obtain ⟨y0, y1, y2, y3⟩ := row4 HV.out.fy
  obtain ⟨e0, e1, e2, e3⟩ := free4 HV.out.fy
  go_upto_region 12 with fail
  have HV' := hid (HV.out.setY ⟨2, 0, b, ⟨#[]⟩⟩)
  clear HV y0 y1 y2 y3 e0 e1 e2 e3
  have HV := hid HV'.out
  clear HV'
  generalize World.setCell _ _ _ = r0 at *
  obtain ⟨y0, y1, y2, y3⟩ := row4 HV.out.fy
  go_wp2_with fail
  refine (cC _ (HE.out.below HV.out.hb).tabs).mono ?_
  rintro e w' ⟨rfl, bb⟩
  have HV' := hid (HV.out.below bb)
  clear bb HV y0 y1 y2 y3 cC
  have HV := hid HV'.out
  clear HV'
  obtain ⟨y0, y1, y2, y3⟩ := row4 HV.out.fy
  go_wp2_with fail
  refine (cT _ (HE.out.below HV.out.hb)).mono ?_
  rintro e w' ⟨rfl, bb⟩
  have HV' := hid (HV.out.below bb)
  clear bb HV y0 y1 y2 y3 cT
  have HV := hid HV'.out
  clear HV'
  obtain ⟨y0, y1, y2, y3⟩ := row4 HV.out.fy
  obtain ⟨x0, x1, x2, x3⟩ := row4 HV.out.fx
  obtain ⟨e0, e1, e2, e3⟩ := free4 HV.out.fx
  go_wp2_with fail
  exact bodyPost_ret (v := .tuple #[.agg #[.int .u8 2, .int .i64 0, .bool b, .string ⟨#[]⟩], .int .i64 0]) (results_pair rfl _ _ w.heap.size 23 _ (0, 0) _ (.int .i64 0) rfl (HV.out.setX ⟨2, 0, b, ⟨#[]⟩⟩).fx (by rfl) Tryd.underlying23 rfl infoValue) rfl ⟨rfl, (HV.out.setX ⟨2, 0, b, ⟨#[]⟩⟩).hb⟩

set_option maxRecDepth 100000 in
set_option maxHeartbeats 4000000 in
theorem parse2_no (s : ByteArray) (w : World) (hE : VEnv w) (_ : s.size ≤ 17592186044416) (b : Bool) (hb : decide (s.data.toList = trueL) = b) (heq : decide (textL ⟨2, 0, b, ⟨#[]⟩⟩ = s.data.toList) = false) :
    Calls Tryd.prog 32 #[.int .u8 2, .string s] w fun e w' => e = .returned (.tuple #[.agg #[.int .u8 0, .int .i64 0, .bool false, .string ⟨#[]⟩], .int .i64 4]) ∧ Below w.heap.size w w' := by
  have hq : (s.toList == [116, 114, 117, 101]) = b := by rw [Lib.toList_data, list_dec]; exact hb
  have hok := ok_tru b
  have cN := truth_any b
  clear hb
  have cC := fun X (hX : Tabs X) => check_any 2 (0) b ⟨#[]⟩ X hX
  rw [show okE ⟨2, 0, b, ⟨#[]⟩⟩ = 0 by simp [okE, hok]] at cC
  have cT := fun X (hX : VEnv X) => textV ⟨2, 0, b, ⟨#[]⟩⟩ X hX (by simp only; omega) (by simp only; omega)
  obtain ⟨T, hT⟩ : ∃ T : ByteArray, (⟨(textL ⟨2, 0, b, ⟨#[]⟩⟩).toArray⟩ : ByteArray) = T := ⟨_, rfl⟩
  rw [hT] at cT
  have q0 : (T.toList == s.toList) = false := by
    rw [Lib.toList_data, Lib.toList_data, list_dec, ← hT]
    exact heq
  have HE := hid hE
  clear hE hok hT heq
  go_enter Tryd.func32, Tryd.ntmps32
  go_upto_region 2 with fail
  generalize hr0 : World.alloc (World.alloc w _) _ = r00
  have HV : Hid (TV zeroV zeroV w r00) := by
    rw [← hr0]
    exact TV.new zeroV w
  clear hr0
  go_wp2_with fail
  refine (cN _).mono ?_
  rintro e w' ⟨rfl, bb⟩
  have HV' := hid (HV.out.below bb)
  clear bb HV cN
  have HV := hid HV'.out
  clear HV'
  obtain ⟨y0, y1, y2, y3⟩ := row4 HV.out.fy
  obtain ⟨e0, e1, e2, e3⟩ := free4 HV.out.fy
  go_upto_region 12 with fail
  have HV' := hid (HV.out.setY ⟨2, 0, b, ⟨#[]⟩⟩)
  clear HV y0 y1 y2 y3 e0 e1 e2 e3
  have HV := hid HV'.out
  clear HV'
  generalize World.setCell _ _ _ = r0 at *
  obtain ⟨y0, y1, y2, y3⟩ := row4 HV.out.fy
  go_wp2_with fail
  refine (cC _ (HE.out.below HV.out.hb).tabs).mono ?_
  rintro e w' ⟨rfl, bb⟩
  have HV' := hid (HV.out.below bb)
  clear bb HV y0 y1 y2 y3 cC
  have HV := hid HV'.out
  clear HV'
  obtain ⟨y0, y1, y2, y3⟩ := row4 HV.out.fy
  go_wp2_with fail
  refine (cT _ (HE.out.below HV.out.hb)).mono ?_
  rintro e w' ⟨rfl, bb⟩
  have HV' := hid (HV.out.below bb)
  clear bb HV y0 y1 y2 y3 cT
  have HV := hid HV'.out
  clear HV'
  obtain ⟨y0, y1, y2, y3⟩ := row4 HV.out.fy
  obtain ⟨x0, x1, x2, x3⟩ := row4 HV.out.fx
  obtain ⟨e0, e1, e2, e3⟩ := free4 HV.out.fx
  go_wp2_with fail
  exact bodyPost_ret (v := .tuple #[.agg #[.int .u8 0, .int .i64 0, .bool false, .string ⟨#[]⟩], .int .i64 4]) (results_pair rfl _ _ w.heap.size 23 _ (0, 0) _ (.int .i64 4) rfl (HV.out.setX ⟨0, 0, false, ⟨#[]⟩⟩).fx (by rfl) Tryd.underlying23 rfl infoValue) rfl ⟨rfl, (HV.out.setX ⟨0, 0, false, ⟨#[]⟩⟩).hb⟩

set_option maxRecDepth 100000 in
set_option maxHeartbeats 4000000 in
theorem parse3_bad (s : ByteArray) (w : World) (hE : VEnv w) (hs : s.size ≤ 17592186044416) (hok : ok ⟨3, 0, false, ⟨(W.unqL s.data.toList).1.toArray⟩⟩ = false) :
    Calls Tryd.prog 32 #[.int .u8 3, .string s] w fun e w' => e = .returned (.tuple #[.agg #[.int .u8 0, .int .i64 0, .bool false, .string ⟨#[]⟩], .int .i64 4]) ∧ Below w.heap.size w w' := by
  have cP := fun X (hX : VEnv X) => unquote_any s X hs hX.nums.errs
  obtain ⟨t, ht⟩ : ∃ t : ByteArray, (⟨(W.unqL s.data.toList).1.toArray⟩ : ByteArray) = t := ⟨_, rfl⟩
  rw [ht] at cP hok
  have cN := words_any t
  clear ht
  have cC := fun X (hX : Tabs X) => check_any 3 (0) false t X hX
  rw [show okE ⟨3, 0, false, t⟩ = 1 by simp [okE, hok]] at cC
  have HE := hid hE
  clear hE hok
  go_enter Tryd.func32, Tryd.ntmps32
  go_upto_region 2 with fail
  generalize hr0 : World.alloc (World.alloc w _) _ = r00
  have HV : Hid (TV zeroV zeroV w r00) := by
    rw [← hr0]
    exact TV.new zeroV w
  clear hr0
  go_wp2_with fail
  refine (cP _ (HE.out.below HV.out.hb)).mono ?_
  rintro e w' ⟨rfl, bb⟩
  have HV' := hid (HV.out.below bb)
  clear bb HV cP
  have HV := hid HV'.out
  clear HV'
  go_wp2_with fail
  refine (cN _).mono ?_
  rintro e w' ⟨rfl, bb⟩
  have HV' := hid (HV.out.below bb)
  clear bb HV cN
  have HV := hid HV'.out
  clear HV'
  obtain ⟨y0, y1, y2, y3⟩ := row4 HV.out.fy
  obtain ⟨e0, e1, e2, e3⟩ := free4 HV.out.fy
  go_upto_region 12 with fail
  have HV' := hid (HV.out.setY ⟨3, 0, false, t⟩)
  clear HV y0 y1 y2 y3 e0 e1 e2 e3
  have HV := hid HV'.out
  clear HV'
  generalize World.setCell _ _ _ = r0 at *
  obtain ⟨y0, y1, y2, y3⟩ := row4 HV.out.fy
  go_wp2_with fail
  refine (cC _ (HE.out.below HV.out.hb).tabs).mono ?_
  rintro e w' ⟨rfl, bb⟩
  have HV' := hid (HV.out.below bb)
  clear bb HV y0 y1 y2 y3 cC
  have HV := hid HV'.out
  clear HV'
  obtain ⟨y0, y1, y2, y3⟩ := row4 HV.out.fy
  obtain ⟨x0, x1, x2, x3⟩ := row4 HV.out.fx
  obtain ⟨e0, e1, e2, e3⟩ := free4 HV.out.fx
  go_wp2_with fail
  exact bodyPost_ret (v := .tuple #[.agg #[.int .u8 0, .int .i64 0, .bool false, .string ⟨#[]⟩], .int .i64 4]) (results_pair rfl _ _ w.heap.size 23 _ (0, 0) _ (.int .i64 4) rfl (HV.out.setX ⟨0, 0, false, ⟨#[]⟩⟩).fx (by rfl) Tryd.underlying23 rfl infoValue) rfl ⟨rfl, (HV.out.setX ⟨0, 0, false, ⟨#[]⟩⟩).hb⟩

set_option maxRecDepth 100000 in
set_option maxHeartbeats 4000000 in
theorem parse3_yes (s : ByteArray) (w : World) (hE : VEnv w) (hs : s.size ≤ 17592186044416) (hok : ok ⟨3, 0, false, ⟨(W.unqL s.data.toList).1.toArray⟩⟩ = true) (heq : decide (textL ⟨3, 0, false, ⟨(W.unqL s.data.toList).1.toArray⟩⟩ = s.data.toList) = true) :
    Calls Tryd.prog 32 #[.int .u8 3, .string s] w fun e w' => e = .returned (.tuple #[.agg #[.int .u8 3, .int .i64 0, .bool false, .string ⟨(W.unqL s.data.toList).1.toArray⟩], .int .i64 0]) ∧ Below w.heap.size w w' := by
  have cP := fun X (hX : VEnv X) => unquote_any s X hs hX.nums.errs
  obtain ⟨t, ht⟩ : ∃ t : ByteArray, (⟨(W.unqL s.data.toList).1.toArray⟩ : ByteArray) = t := ⟨_, rfl⟩
  rw [ht] at cP hok heq ⊢
  have cN := words_any t
  clear ht
  have cC := fun X (hX : Tabs X) => check_any 3 (0) false t X hX
  rw [show okE ⟨3, 0, false, t⟩ = 0 by simp [okE, hok]] at cC
  have cT := fun X (hX : VEnv X) => textV ⟨3, 0, false, t⟩ X hX (by simp only; omega) (by simp only; omega)
  obtain ⟨T, hT⟩ : ∃ T : ByteArray, (⟨(textL ⟨3, 0, false, t⟩).toArray⟩ : ByteArray) = T := ⟨_, rfl⟩
  rw [hT] at cT
  have q0 : (T.toList == s.toList) = true := by
    rw [Lib.toList_data, Lib.toList_data, list_dec, ← hT]
    exact heq
  have HE := hid hE
  clear hE hok hT heq
  go_enter Tryd.func32, Tryd.ntmps32
  go_upto_region 2 with fail
  generalize hr0 : World.alloc (World.alloc w _) _ = r00
  have HV : Hid (TV zeroV zeroV w r00) := by
    rw [← hr0]
    exact TV.new zeroV w
  clear hr0
  go_wp2_with fail
  refine (cP _ (HE.out.below HV.out.hb)).mono ?_
  rintro e w' ⟨rfl, bb⟩
  have HV' := hid (HV.out.below bb)
  clear bb HV cP
  have HV := hid HV'.out
  clear HV'
  go_wp2_with fail
  refine (cN _).mono ?_
  rintro e w' ⟨rfl, bb⟩
  have HV' := hid (HV.out.below bb)
  clear bb HV cN
  have HV := hid HV'.out
  clear HV'
  obtain ⟨y0, y1, y2, y3⟩ := row4 HV.out.fy
  obtain ⟨e0, e1, e2, e3⟩ := free4 HV.out.fy
  go_upto_region 12 with fail
  have HV' := hid (HV.out.setY ⟨3, 0, false, t⟩)
  clear HV y0 y1 y2 y3 e0 e1 e2 e3
  have HV := hid HV'.out
  clear HV'
  generalize World.setCell _ _ _ = r0 at *
  obtain ⟨y0, y1, y2, y3⟩ := row4 HV.out.fy
  go_wp2_with fail
  refine (cC _ (HE.out.below HV.out.hb).tabs).mono ?_
  rintro e w' ⟨rfl, bb⟩
  have HV' := hid (HV.out.below bb)
  clear bb HV y0 y1 y2 y3 cC
  have HV := hid HV'.out
  clear HV'
  obtain ⟨y0, y1, y2, y3⟩ := row4 HV.out.fy
  go_wp2_with fail
  refine (cT _ (HE.out.below HV.out.hb)).mono ?_
  rintro e w' ⟨rfl, bb⟩
  have HV' := hid (HV.out.below bb)
  clear bb HV y0 y1 y2 y3 cT
  have HV := hid HV'.out
  clear HV'
  obtain ⟨y0, y1, y2, y3⟩ := row4 HV.out.fy
  obtain ⟨x0, x1, x2, x3⟩ := row4 HV.out.fx
  obtain ⟨e0, e1, e2, e3⟩ := free4 HV.out.fx
  go_wp2_with fail
  exact bodyPost_ret (v := .tuple #[.agg #[.int .u8 3, .int .i64 0, .bool false, .string t], .int .i64 0]) (results_pair rfl _ _ w.heap.size 23 _ (0, 0) _ (.int .i64 0) rfl (HV.out.setX ⟨3, 0, false, t⟩).fx (by rfl) Tryd.underlying23 rfl infoValue) rfl ⟨rfl, (HV.out.setX ⟨3, 0, false, t⟩).hb⟩

set_option maxRecDepth 100000 in
set_option maxHeartbeats 4000000 in
theorem parse3_no (s : ByteArray) (w : World) (hE : VEnv w) (hs : s.size ≤ 17592186044416) (hok : ok ⟨3, 0, false, ⟨(W.unqL s.data.toList).1.toArray⟩⟩ = true) (heq : decide (textL ⟨3, 0, false, ⟨(W.unqL s.data.toList).1.toArray⟩⟩ = s.data.toList) = false) :
    Calls Tryd.prog 32 #[.int .u8 3, .string s] w fun e w' => e = .returned (.tuple #[.agg #[.int .u8 0, .int .i64 0, .bool false, .string ⟨#[]⟩], .int .i64 4]) ∧ Below w.heap.size w w' := by
  have cP := fun X (hX : VEnv X) => unquote_any s X hs hX.nums.errs
  obtain ⟨t, ht⟩ : ∃ t : ByteArray, (⟨(W.unqL s.data.toList).1.toArray⟩ : ByteArray) = t := ⟨_, rfl⟩
  rw [ht] at cP hok heq
  have cN := words_any t
  clear ht
  have cC := fun X (hX : Tabs X) => check_any 3 (0) false t X hX
  rw [show okE ⟨3, 0, false, t⟩ = 0 by simp [okE, hok]] at cC
  have cT := fun X (hX : VEnv X) => textV ⟨3, 0, false, t⟩ X hX (by simp only; omega) (by simp only; omega)
  obtain ⟨T, hT⟩ : ∃ T : ByteArray, (⟨(textL ⟨3, 0, false, t⟩).toArray⟩ : ByteArray) = T := ⟨_, rfl⟩
  rw [hT] at cT
  have q0 : (T.toList == s.toList) = false := by
    rw [Lib.toList_data, Lib.toList_data, list_dec, ← hT]
    exact heq
  have HE := hid hE
  clear hE hok hT heq
  go_enter Tryd.func32, Tryd.ntmps32
  go_upto_region 2 with fail
  generalize hr0 : World.alloc (World.alloc w _) _ = r00
  have HV : Hid (TV zeroV zeroV w r00) := by
    rw [← hr0]
    exact TV.new zeroV w
  clear hr0
  go_wp2_with fail
  refine (cP _ (HE.out.below HV.out.hb)).mono ?_
  rintro e w' ⟨rfl, bb⟩
  have HV' := hid (HV.out.below bb)
  clear bb HV cP
  have HV := hid HV'.out
  clear HV'
  go_wp2_with fail
  refine (cN _).mono ?_
  rintro e w' ⟨rfl, bb⟩
  have HV' := hid (HV.out.below bb)
  clear bb HV cN
  have HV := hid HV'.out
  clear HV'
  obtain ⟨y0, y1, y2, y3⟩ := row4 HV.out.fy
  obtain ⟨e0, e1, e2, e3⟩ := free4 HV.out.fy
  go_upto_region 12 with fail
  have HV' := hid (HV.out.setY ⟨3, 0, false, t⟩)
  clear HV y0 y1 y2 y3 e0 e1 e2 e3
  have HV := hid HV'.out
  clear HV'
  generalize World.setCell _ _ _ = r0 at *
  obtain ⟨y0, y1, y2, y3⟩ := row4 HV.out.fy
  go_wp2_with fail
  refine (cC _ (HE.out.below HV.out.hb).tabs).mono ?_
  rintro e w' ⟨rfl, bb⟩
  have HV' := hid (HV.out.below bb)
  clear bb HV y0 y1 y2 y3 cC
  have HV := hid HV'.out
  clear HV'
  obtain ⟨y0, y1, y2, y3⟩ := row4 HV.out.fy
  go_wp2_with fail
  refine (cT _ (HE.out.below HV.out.hb)).mono ?_
  rintro e w' ⟨rfl, bb⟩
  have HV' := hid (HV.out.below bb)
  clear bb HV y0 y1 y2 y3 cT
  have HV := hid HV'.out
  clear HV'
  obtain ⟨y0, y1, y2, y3⟩ := row4 HV.out.fy
  obtain ⟨x0, x1, x2, x3⟩ := row4 HV.out.fx
  obtain ⟨e0, e1, e2, e3⟩ := free4 HV.out.fx
  go_wp2_with fail
  exact bodyPost_ret (v := .tuple #[.agg #[.int .u8 0, .int .i64 0, .bool false, .string ⟨#[]⟩], .int .i64 4]) (results_pair rfl _ _ w.heap.size 23 _ (0, 0) _ (.int .i64 4) rfl (HV.out.setX ⟨0, 0, false, ⟨#[]⟩⟩).fx (by rfl) Tryd.underlying23 rfl infoValue) rfl ⟨rfl, (HV.out.setX ⟨0, 0, false, ⟨#[]⟩⟩).hb⟩

set_option maxRecDepth 100000 in
set_option maxHeartbeats 4000000 in
theorem parse0 (k : Nat) (s : ByteArray) (w : World) (h1 : k ≠ 1) (h2 : k ≠ 2) (h3 : k ≠ 3) :
    Calls Tryd.prog 32 #[.int .u8 k, .string s] w fun e w' => e = .returned (.tuple #[.agg #[.int .u8 0, .int .i64 0, .bool false, .string ⟨#[]⟩], .int .i64 1]) ∧ Below w.heap.size w w' := by
  have t1 : ((k : Int) == 1) = false := beq_eq_false_iff_ne.2 (by omega)
  have t2 : ((k : Int) == 2) = false := beq_eq_false_iff_ne.2 (by omega)
  have t3 : ((k : Int) == 3) = false := beq_eq_false_iff_ne.2 (by omega)
  clear h1 h2 h3
  go_enter Tryd.func32, Tryd.ntmps32
  go_upto_region 2 with fail
  generalize hr0 : World.alloc (World.alloc w _) _ = r00
  have HV : Hid (TV zeroV zeroV w r00) := by
    rw [← hr0]
    exact TV.new zeroV w
  clear hr0
  obtain ⟨y0, y1, y2, y3⟩ := row4 HV.out.fy
  obtain ⟨x0, x1, x2, x3⟩ := row4 HV.out.fx
  obtain ⟨e0, e1, e2, e3⟩ := free4 HV.out.fx
  go_wp2_with fail
  exact bodyPost_ret (v := .tuple #[.agg #[.int .u8 0, .int .i64 0, .bool false, .string ⟨#[]⟩], .int .i64 1]) (results_pair rfl _ _ w.heap.size 23 _ (0, 0) _ (.int .i64 1) rfl (HV.out.setX ⟨0, 0, false, ⟨#[]⟩⟩).fx (by rfl) Tryd.underlying23 rfl infoValue) rfl ⟨rfl, (HV.out.setX ⟨0, 0, false, ⟨#[]⟩⟩).hb⟩

theorem parseV (k : Nat) (s : ByteArray) (w : World) (hE : VEnv w) (hs : s.size ≤ 17592186044416) :
    Calls Tryd.prog 32 #[.int .u8 k, .string s] w fun e w' => e = .returned (.tuple #[.agg #[.int .u8 (parseP k s).1.k, .int .i64 (parseP k s).1.n, .bool (parseP k s).1.b, .string (parseP k s).1.s], .int .i64 (parseP k s).2]) ∧ Below w.heap.size w w' := by
  unfold parseP
  by_cases h1 : k = 1
  · subst h1
    rw [if_pos rfl]
    cases hq : (W.parseW s.data.toList).2
    · rw [if_neg (by simp)]; exact parse1_no s w hE hs hq
    · rw [if_pos rfl]; exact parse1_yes s w hE hs hq
  · rw [if_neg h1]
    by_cases h2 : k = 2
    · subst h2
      rw [if_pos rfl]
      by_cases ht : s.data.toList = trueL
      · rw [if_pos ht]
        exact parse2_yes s w hE hs true (decide_eq_true ht) (by rw [text_tru, ht]; rfl)
      · rw [if_neg ht]
        by_cases hf : s.data.toList = falseL
        · rw [if_pos hf]
          exact parse2_yes s w hE hs false (decide_eq_false ht) (by rw [text_tru, hf]; rfl)
        · rw [if_neg hf]
          exact parse2_no s w hE hs false (decide_eq_false ht) (by rw [text_tru]; exact decide_eq_false fun e => hf e.symm)
    · rw [if_neg h2]
      by_cases h3 : k = 3
      · subst h3
        rw [if_pos rfl]
        cases hq : (W.unqL s.data.toList).2
        · rw [if_neg (by simp)]
          obtain ⟨e1, e2⟩ := unq_not hq
          have hok : ok ⟨3, 0, false, ⟨(W.unqL s.data.toList).1.toArray⟩⟩ = true := by rw [e1]; rfl
          exact parse3_no s w hE hs hok (by rw [text_txt _ hok]; refine decide_eq_false ?_; show W.quoteL (W.unqL s.data.toList).1 ≠ _; rw [e1]; exact e2)
        · cases hok : ok ⟨3, 0, false, ⟨(W.unqL s.data.toList).1.toArray⟩⟩
          · rw [if_neg (by simp)]; exact parse3_bad s w hE hs hok
          · rw [if_pos ⟨rfl, rfl⟩]
            exact parse3_yes s w hE hs hok (by rw [text_txt _ hok]; exact decide_eq_true (unq_yes hq))
      · rw [if_neg h3]; exact parse0 k s w h1 h2 h3

set_option maxRecDepth 100000 in
set_option maxHeartbeats 4000000 in
theorem rparse1_yes (s : ByteArray) (w : World) (hs : s.size ≤ 17592186044416) (hq : (W.parseW s.data.toList).2 = true) :
    Calls Tryd.prog 33 #[.int .u8 1, .string s] w fun e w' => e = .returned (.tuple #[.agg #[.int .u8 1, .int .i64 (W.parseW s.data.toList).1, .bool false, .string ⟨#[]⟩], .int .i64 0]) ∧ Below w.heap.size w w' := by
  have cP := fun X => refParse_any s X (by omega)
  simp only [W.refP_eq] at cP
  obtain ⟨n, hn⟩ : ∃ n, (W.parseW s.data.toList).1 = n := ⟨_, rfl⟩
  simp only [hn, hq] at cP ⊢
  clear hn hq
  have hok := ok_num n
  have hts : (⟨#[]⟩ : ByteArray).size ≤ 9223372036854775803 := by decide
  have cC := fun X => refCheck_any 1 (n) false ⟨#[]⟩ X hts
  rw [show okE ⟨1, n, false, ⟨#[]⟩⟩ = 0 by simp [okE, hok]] at cC
  clear hok hts
  go_enter Tryd.func33, Tryd.ntmps33
  go_upto_region 2 with fail
  generalize hr0 : World.alloc (World.alloc w _) _ = r00
  have HV : Hid (TV zeroV ⟨1, 0, false, ⟨#[]⟩⟩ w r00) := by
    rw [← hr0]
    exact TV.new ⟨1, 0, false, ⟨#[]⟩⟩ w
  clear hr0
  go_wp2_with fail
  refine (cP _).mono ?_
  rintro e w' ⟨rfl, bb⟩
  have HV' := hid (HV.out.below bb)
  clear bb HV cP
  have HV := hid HV'.out
  clear HV'
  obtain ⟨y0, y1, y2, y3⟩ := row4 HV.out.fy
  obtain ⟨e0, e1, e2, e3⟩ := free4 HV.out.fy
  have HV' := hid (HV.out.set1 1 (.int .i64 n) ⟨1, n, false, ⟨#[]⟩⟩ rfl)
  go_upto_region 12 with fail
  clear HV y0 y1 y2 y3 e0 e1 e2 e3
  have HV := hid HV'.out
  clear HV'
  generalize World.setCell _ _ _ = r0 at *
  obtain ⟨y0, y1, y2, y3⟩ := row4 HV.out.fy
  go_wp2_with fail
  refine (cC _).mono ?_
  rintro e w' ⟨rfl, bb⟩
  have HV' := hid (HV.out.below bb)
  clear bb HV y0 y1 y2 y3 cC
  have HV := hid HV'.out
  clear HV'
  obtain ⟨y0, y1, y2, y3⟩ := row4 HV.out.fy
  obtain ⟨x0, x1, x2, x3⟩ := row4 HV.out.fx
  obtain ⟨e0, e1, e2, e3⟩ := free4 HV.out.fx
  go_wp2_with fail
  exact bodyPost_ret (v := .tuple #[.agg #[.int .u8 1, .int .i64 n, .bool false, .string ⟨#[]⟩], .int .i64 0]) (results_pair rfl _ _ w.heap.size 23 _ (0, 0) _ (.int .i64 0) rfl (HV.out.setX ⟨1, n, false, ⟨#[]⟩⟩).fx (by rfl) Tryd.underlying23 rfl infoValue) rfl ⟨rfl, (HV.out.setX ⟨1, n, false, ⟨#[]⟩⟩).hb⟩

set_option maxRecDepth 100000 in
set_option maxHeartbeats 4000000 in
theorem rparse1_no (s : ByteArray) (w : World) (hs : s.size ≤ 17592186044416) (hq : (W.parseW s.data.toList).2 = false) :
    Calls Tryd.prog 33 #[.int .u8 1, .string s] w fun e w' => e = .returned (.tuple #[.agg #[.int .u8 0, .int .i64 0, .bool false, .string ⟨#[]⟩], .int .i64 4]) ∧ Below w.heap.size w w' := by
  have cP := fun X => refParse_any s X (by omega)
  simp only [W.refP_eq] at cP
  obtain ⟨n, hn⟩ : ∃ n, (W.parseW s.data.toList).1 = n := ⟨_, rfl⟩
  simp only [hn, hq] at cP
  clear hn hq
  go_enter Tryd.func33, Tryd.ntmps33
  go_upto_region 2 with fail
  generalize hr0 : World.alloc (World.alloc w _) _ = r00
  have HV : Hid (TV zeroV ⟨1, 0, false, ⟨#[]⟩⟩ w r00) := by
    rw [← hr0]
    exact TV.new ⟨1, 0, false, ⟨#[]⟩⟩ w
  clear hr0
  go_wp2_with fail
  refine (cP _).mono ?_
  rintro e w' ⟨rfl, bb⟩
  have HV' := hid (HV.out.below bb)
  clear bb HV cP
  have HV := hid HV'.out
  clear HV'
  obtain ⟨y0, y1, y2, y3⟩ := row4 HV.out.fy
  obtain ⟨e0, e1, e2, e3⟩ := free4 HV.out.fy
  have HV' := hid (HV.out.set1 1 (.int .i64 n) ⟨1, n, false, ⟨#[]⟩⟩ rfl)
  go_upto_region 12 with fail
  clear HV y0 y1 y2 y3 e0 e1 e2 e3
  have HV := hid HV'.out
  clear HV'
  generalize World.setCell _ _ _ = r0 at *
  obtain ⟨y0, y1, y2, y3⟩ := row4 HV.out.fy
  obtain ⟨x0, x1, x2, x3⟩ := row4 HV.out.fx
  obtain ⟨e0, e1, e2, e3⟩ := free4 HV.out.fx
  go_wp2_with fail
  exact bodyPost_ret (v := .tuple #[.agg #[.int .u8 0, .int .i64 0, .bool false, .string ⟨#[]⟩], .int .i64 4]) (results_pair rfl _ _ w.heap.size 23 _ (0, 0) _ (.int .i64 4) rfl (HV.out.setX ⟨0, 0, false, ⟨#[]⟩⟩).fx (by rfl) Tryd.underlying23 rfl infoValue) rfl ⟨rfl, (HV.out.setX ⟨0, 0, false, ⟨#[]⟩⟩).hb⟩

set_option maxRecDepth 100000 in
set_option maxHeartbeats 4000000 in
theorem rparse2_t (s : ByteArray) (w : World) (_ : s.size ≤ 17592186044416) (h1 : decide (s.data.toList = trueL) = true) (h2 : decide (s.data.toList = falseL) = false) :
    Calls Tryd.prog 33 #[.int .u8 2, .string s] w fun e w' => e = .returned (.tuple #[.agg #[.int .u8 2, .int .i64 0, .bool true, .string ⟨#[]⟩], .int .i64 0]) ∧ Below w.heap.size w w' := by
  have q1 : (s.toList == [116, 114, 117, 101]) = true := by rw [Lib.toList_data, list_dec]; exact h1
  have q2 : (s.toList == [102, 97, 108, 115, 101]) = false := by rw [Lib.toList_data, list_dec]; exact h2
  clear h1 h2
  have hok := ok_tru true
  have hts : (⟨#[]⟩ : ByteArray).size ≤ 9223372036854775803 := by decide
  have cC := fun X => refCheck_any 2 (0) true ⟨#[]⟩ X hts
  rw [show okE ⟨2, 0, true, ⟨#[]⟩⟩ = 0 by simp [okE, hok]] at cC
  clear hok hts
  go_enter Tryd.func33, Tryd.ntmps33
  go_upto_region 2 with fail
  generalize hr0 : World.alloc (World.alloc w _) _ = r00
  have HV : Hid (TV zeroV ⟨2, 0, false, ⟨#[]⟩⟩ w r00) := by
    rw [← hr0]
    exact TV.new ⟨2, 0, false, ⟨#[]⟩⟩ w
  clear hr0
  obtain ⟨y0, y1, y2, y3⟩ := row4 HV.out.fy
  obtain ⟨e0, e1, e2, e3⟩ := free4 HV.out.fy
  have HV' := hid (HV.out.set1 2 (.bool true) ⟨2, 0, true, ⟨#[]⟩⟩ rfl)
  go_upto_region 12 with fail
  clear HV y0 y1 y2 y3 e0 e1 e2 e3
  have HV := hid HV'.out
  clear HV'
  generalize World.setCell _ _ _ = r0 at *
  obtain ⟨y0, y1, y2, y3⟩ := row4 HV.out.fy
  go_wp2_with fail
  refine (cC _).mono ?_
  rintro e w' ⟨rfl, bb⟩
  have HV' := hid (HV.out.below bb)
  clear bb HV y0 y1 y2 y3 cC
  have HV := hid HV'.out
  clear HV'
  obtain ⟨y0, y1, y2, y3⟩ := row4 HV.out.fy
  obtain ⟨x0, x1, x2, x3⟩ := row4 HV.out.fx
  obtain ⟨e0, e1, e2, e3⟩ := free4 HV.out.fx
  go_wp2_with fail
  exact bodyPost_ret (v := .tuple #[.agg #[.int .u8 2, .int .i64 0, .bool true, .string ⟨#[]⟩], .int .i64 0]) (results_pair rfl _ _ w.heap.size 23 _ (0, 0) _ (.int .i64 0) rfl (HV.out.setX ⟨2, 0, true, ⟨#[]⟩⟩).fx (by rfl) Tryd.underlying23 rfl infoValue) rfl ⟨rfl, (HV.out.setX ⟨2, 0, true, ⟨#[]⟩⟩).hb⟩

set_option maxRecDepth 100000 in
set_option maxHeartbeats 4000000 in
theorem rparse2_f (s : ByteArray) (w : World) (_ : s.size ≤ 17592186044416) (h1 : decide (s.data.toList = trueL) = false) (h2 : decide (s.data.toList = falseL) = true) :
    Calls Tryd.prog 33 #[.int .u8 2, .string s] w fun e w' => e = .returned (.tuple #[.agg #[.int .u8 2, .int .i64 0, .bool false, .string ⟨#[]⟩], .int .i64 0]) ∧ Below w.heap.size w w' := by
  have q1 : (s.toList == [116, 114, 117, 101]) = false := by rw [Lib.toList_data, list_dec]; exact h1
  have q2 : (s.toList == [102, 97, 108, 115, 101]) = true := by rw [Lib.toList_data, list_dec]; exact h2
  clear h1 h2
  have hok := ok_tru false
  have hts : (⟨#[]⟩ : ByteArray).size ≤ 9223372036854775803 := by decide
  have cC := fun X => refCheck_any 2 (0) false ⟨#[]⟩ X hts
  rw [show okE ⟨2, 0, false, ⟨#[]⟩⟩ = 0 by simp [okE, hok]] at cC
  clear hok hts
  go_enter Tryd.func33, Tryd.ntmps33
  go_upto_region 2 with fail
  generalize hr0 : World.alloc (World.alloc w _) _ = r00
  have HV : Hid (TV zeroV ⟨2, 0, false, ⟨#[]⟩⟩ w r00) := by
    rw [← hr0]
    exact TV.new ⟨2, 0, false, ⟨#[]⟩⟩ w
  clear hr0
  obtain ⟨y0, y1, y2, y3⟩ := row4 HV.out.fy
  obtain ⟨e0, e1, e2, e3⟩ := free4 HV.out.fy
  have HV' := hid (HV.out.set1 2 (.bool false) ⟨2, 0, false, ⟨#[]⟩⟩ rfl)
  go_upto_region 12 with fail
  clear HV y0 y1 y2 y3 e0 e1 e2 e3
  have HV := hid HV'.out
  clear HV'
  generalize World.setCell _ _ _ = r0 at *
  obtain ⟨y0, y1, y2, y3⟩ := row4 HV.out.fy
  go_wp2_with fail
  refine (cC _).mono ?_
  rintro e w' ⟨rfl, bb⟩
  have HV' := hid (HV.out.below bb)
  clear bb HV y0 y1 y2 y3 cC
  have HV := hid HV'.out
  clear HV'
  obtain ⟨y0, y1, y2, y3⟩ := row4 HV.out.fy
  obtain ⟨x0, x1, x2, x3⟩ := row4 HV.out.fx
  obtain ⟨e0, e1, e2, e3⟩ := free4 HV.out.fx
  go_wp2_with fail
  exact bodyPost_ret (v := .tuple #[.agg #[.int .u8 2, .int .i64 0, .bool false, .string ⟨#[]⟩], .int .i64 0]) (results_pair rfl _ _ w.heap.size 23 _ (0, 0) _ (.int .i64 0) rfl (HV.out.setX ⟨2, 0, false, ⟨#[]⟩⟩).fx (by rfl) Tryd.underlying23 rfl infoValue) rfl ⟨rfl, (HV.out.setX ⟨2, 0, false, ⟨#[]⟩⟩).hb⟩

set_option maxRecDepth 100000 in
set_option maxHeartbeats 4000000 in
theorem rparse2_no (s : ByteArray) (w : World) (_ : s.size ≤ 17592186044416) (h1 : decide (s.data.toList = trueL) = false) (h2 : decide (s.data.toList = falseL) = false) :
    Calls Tryd.prog 33 #[.int .u8 2, .string s] w fun e w' => e = .returned (.tuple #[.agg #[.int .u8 0, .int .i64 0, .bool false, .string ⟨#[]⟩], .int .i64 4]) ∧ Below w.heap.size w w' := by
  have q1 : (s.toList == [116, 114, 117, 101]) = false := by rw [Lib.toList_data, list_dec]; exact h1
  have q2 : (s.toList == [102, 97, 108, 115, 101]) = false := by rw [Lib.toList_data, list_dec]; exact h2
  clear h1 h2
  go_enter Tryd.func33, Tryd.ntmps33
  go_upto_region 2 with fail
  generalize hr0 : World.alloc (World.alloc w _) _ = r00
  have HV : Hid (TV zeroV ⟨2, 0, false, ⟨#[]⟩⟩ w r00) := by
    rw [← hr0]
    exact TV.new ⟨2, 0, false, ⟨#[]⟩⟩ w
  clear hr0
  obtain ⟨y0, y1, y2, y3⟩ := row4 HV.out.fy
  obtain ⟨e0, e1, e2, e3⟩ := free4 HV.out.fy
  have HV' := hid (HV.out.set1 2 (.bool false) ⟨2, 0, false, ⟨#[]⟩⟩ rfl)
  go_upto_region 12 with fail
  clear HV y0 y1 y2 y3 e0 e1 e2 e3
  have HV := hid HV'.out
  clear HV'
  generalize World.setCell _ _ _ = r0 at *
  obtain ⟨y0, y1, y2, y3⟩ := row4 HV.out.fy
  obtain ⟨x0, x1, x2, x3⟩ := row4 HV.out.fx
  obtain ⟨e0, e1, e2, e3⟩ := free4 HV.out.fx
  go_wp2_with fail
  exact bodyPost_ret (v := .tuple #[.agg #[.int .u8 0, .int .i64 0, .bool false, .string ⟨#[]⟩], .int .i64 4]) (results_pair rfl _ _ w.heap.size 23 _ (0, 0) _ (.int .i64 4) rfl (HV.out.setX ⟨0, 0, false, ⟨#[]⟩⟩).fx (by rfl) Tryd.underlying23 rfl infoValue) rfl ⟨rfl, (HV.out.setX ⟨0, 0, false, ⟨#[]⟩⟩).hb⟩

set_option maxRecDepth 100000 in
set_option maxHeartbeats 4000000 in
theorem rparse3_no (s : ByteArray) (w : World) (hs : s.size ≤ 17592186044416) (hq : (W.unqL s.data.toList).2 = false) :
    Calls Tryd.prog 33 #[.int .u8 3, .string s] w fun e w' => e = .returned (.tuple #[.agg #[.int .u8 0, .int .i64 0, .bool false, .string ⟨#[]⟩], .int .i64 4]) ∧ Below w.heap.size w w' := by
  have cP := fun X => refUnquote_any s X hs
  obtain ⟨t, ht⟩ : ∃ t : ByteArray, (⟨(W.unqL s.data.toList).1.toArray⟩ : ByteArray) = t := ⟨_, rfl⟩
  simp only [ht, hq] at cP
  clear ht hq
  go_enter Tryd.func33, Tryd.ntmps33
  go_upto_region 2 with fail
  generalize hr0 : World.alloc (World.alloc w _) _ = r00
  have HV : Hid (TV zeroV ⟨3, 0, false, ⟨#[]⟩⟩ w r00) := by
    rw [← hr0]
    exact TV.new ⟨3, 0, false, ⟨#[]⟩⟩ w
  clear hr0
  go_wp2_with fail
  refine (cP _).mono ?_
  rintro e w' ⟨rfl, bb⟩
  have HV' := hid (HV.out.below bb)
  clear bb HV cP
  have HV := hid HV'.out
  clear HV'
  obtain ⟨y0, y1, y2, y3⟩ := row4 HV.out.fy
  obtain ⟨e0, e1, e2, e3⟩ := free4 HV.out.fy
  have HV' := hid (HV.out.set1 3 (.string t) ⟨3, 0, false, t⟩ rfl)
  go_upto_region 12 with fail
  clear HV y0 y1 y2 y3 e0 e1 e2 e3
  have HV := hid HV'.out
  clear HV'
  generalize World.setCell _ _ _ = r0 at *
  obtain ⟨y0, y1, y2, y3⟩ := row4 HV.out.fy
  obtain ⟨x0, x1, x2, x3⟩ := row4 HV.out.fx
  obtain ⟨e0, e1, e2, e3⟩ := free4 HV.out.fx
  go_wp2_with fail
  exact bodyPost_ret (v := .tuple #[.agg #[.int .u8 0, .int .i64 0, .bool false, .string ⟨#[]⟩], .int .i64 4]) (results_pair rfl _ _ w.heap.size 23 _ (0, 0) _ (.int .i64 4) rfl (HV.out.setX ⟨0, 0, false, ⟨#[]⟩⟩).fx (by rfl) Tryd.underlying23 rfl infoValue) rfl ⟨rfl, (HV.out.setX ⟨0, 0, false, ⟨#[]⟩⟩).hb⟩

set_option maxRecDepth 100000 in
set_option maxHeartbeats 4000000 in
theorem rparse3_bad (s : ByteArray) (w : World) (hs : s.size ≤ 17592186044416) (hq : (W.unqL s.data.toList).2 = true) (hok : ok ⟨3, 0, false, ⟨(W.unqL s.data.toList).1.toArray⟩⟩ = false) (hts : (⟨(W.unqL s.data.toList).1.toArray⟩ : ByteArray).size ≤ 9223372036854775803) :
    Calls Tryd.prog 33 #[.int .u8 3, .string s] w fun e w' => e = .returned (.tuple #[.agg #[.int .u8 0, .int .i64 0, .bool false, .string ⟨#[]⟩], .int .i64 4]) ∧ Below w.heap.size w w' := by
  have cP := fun X => refUnquote_any s X hs
  obtain ⟨t, ht⟩ : ∃ t : ByteArray, (⟨(W.unqL s.data.toList).1.toArray⟩ : ByteArray) = t := ⟨_, rfl⟩
  simp only [ht, hq] at cP
  rw [ht] at hts hok
  clear ht hq
  have cC := fun X => refCheck_any 3 (0) false t X hts
  rw [show okE ⟨3, 0, false, t⟩ = 1 by simp [okE, hok]] at cC
  clear hok hts
  go_enter Tryd.func33, Tryd.ntmps33
  go_upto_region 2 with fail
  generalize hr0 : World.alloc (World.alloc w _) _ = r00
  have HV : Hid (TV zeroV ⟨3, 0, false, ⟨#[]⟩⟩ w r00) := by
    rw [← hr0]
    exact TV.new ⟨3, 0, false, ⟨#[]⟩⟩ w
  clear hr0
  go_wp2_with fail
  refine (cP _).mono ?_
  rintro e w' ⟨rfl, bb⟩
  have HV' := hid (HV.out.below bb)
  clear bb HV cP
  have HV := hid HV'.out
  clear HV'
  obtain ⟨y0, y1, y2, y3⟩ := row4 HV.out.fy
  obtain ⟨e0, e1, e2, e3⟩ := free4 HV.out.fy
  have HV' := hid (HV.out.set1 3 (.string t) ⟨3, 0, false, t⟩ rfl)
  go_upto_region 12 with fail
  clear HV y0 y1 y2 y3 e0 e1 e2 e3
  have HV := hid HV'.out
  clear HV'
  generalize World.setCell _ _ _ = r0 at *
  obtain ⟨y0, y1, y2, y3⟩ := row4 HV.out.fy
  go_wp2_with fail
  refine (cC _).mono ?_
  rintro e w' ⟨rfl, bb⟩
  have HV' := hid (HV.out.below bb)
  clear bb HV y0 y1 y2 y3 cC
  have HV := hid HV'.out
  clear HV'
  obtain ⟨y0, y1, y2, y3⟩ := row4 HV.out.fy
  obtain ⟨x0, x1, x2, x3⟩ := row4 HV.out.fx
  obtain ⟨e0, e1, e2, e3⟩ := free4 HV.out.fx
  go_wp2_with fail
  exact bodyPost_ret (v := .tuple #[.agg #[.int .u8 0, .int .i64 0, .bool false, .string ⟨#[]⟩], .int .i64 4]) (results_pair rfl _ _ w.heap.size 23 _ (0, 0) _ (.int .i64 4) rfl (HV.out.setX ⟨0, 0, false, ⟨#[]⟩⟩).fx (by rfl) Tryd.underlying23 rfl infoValue) rfl ⟨rfl, (HV.out.setX ⟨0, 0, false, ⟨#[]⟩⟩).hb⟩

set_option maxRecDepth 100000 in
set_option maxHeartbeats 4000000 in
theorem rparse3_yes (s : ByteArray) (w : World) (hs : s.size ≤ 17592186044416) (hq : (W.unqL s.data.toList).2 = true) (hok : ok ⟨3, 0, false, ⟨(W.unqL s.data.toList).1.toArray⟩⟩ = true) (hts : (⟨(W.unqL s.data.toList).1.toArray⟩ : ByteArray).size ≤ 9223372036854775803) :
    Calls Tryd.prog 33 #[.int .u8 3, .string s] w fun e w' => e = .returned (.tuple #[.agg #[.int .u8 3, .int .i64 0, .bool false, .string ⟨(W.unqL s.data.toList).1.toArray⟩], .int .i64 0]) ∧ Below w.heap.size w w' := by
  have cP := fun X => refUnquote_any s X hs
  obtain ⟨t, ht⟩ : ∃ t : ByteArray, (⟨(W.unqL s.data.toList).1.toArray⟩ : ByteArray) = t := ⟨_, rfl⟩
  simp only [ht, hq] at cP
  rw [ht] at hts hok ⊢
  clear ht hq
  have cC := fun X => refCheck_any 3 (0) false t X hts
  rw [show okE ⟨3, 0, false, t⟩ = 0 by simp [okE, hok]] at cC
  clear hok hts
  go_enter Tryd.func33, Tryd.ntmps33
  go_upto_region 2 with fail
  generalize hr0 : World.alloc (World.alloc w _) _ = r00
  have HV : Hid (TV zeroV ⟨3, 0, false, ⟨#[]⟩⟩ w r00) := by
    rw [← hr0]
    exact TV.new ⟨3, 0, false, ⟨#[]⟩⟩ w
  clear hr0
  go_wp2_with fail
  refine (cP _).mono ?_
  rintro e w' ⟨rfl, bb⟩
  have HV' := hid (HV.out.below bb)
  clear bb HV cP
  have HV := hid HV'.out
  clear HV'
  obtain ⟨y0, y1, y2, y3⟩ := row4 HV.out.fy
  obtain ⟨e0, e1, e2, e3⟩ := free4 HV.out.fy
  have HV' := hid (HV.out.set1 3 (.string t) ⟨3, 0, false, t⟩ rfl)
  go_upto_region 12 with fail
  clear HV y0 y1 y2 y3 e0 e1 e2 e3
  have HV := hid HV'.out
  clear HV'
  generalize World.setCell _ _ _ = r0 at *
  obtain ⟨y0, y1, y2, y3⟩ := row4 HV.out.fy
  go_wp2_with fail
  refine (cC _).mono ?_
  rintro e w' ⟨rfl, bb⟩
  have HV' := hid (HV.out.below bb)
  clear bb HV y0 y1 y2 y3 cC
  have HV := hid HV'.out
  clear HV'
  obtain ⟨y0, y1, y2, y3⟩ := row4 HV.out.fy
  obtain ⟨x0, x1, x2, x3⟩ := row4 HV.out.fx
  obtain ⟨e0, e1, e2, e3⟩ := free4 HV.out.fx
  go_wp2_with fail
  exact bodyPost_ret (v := .tuple #[.agg #[.int .u8 3, .int .i64 0, .bool false, .string t], .int .i64 0]) (results_pair rfl _ _ w.heap.size 23 _ (0, 0) _ (.int .i64 0) rfl (HV.out.setX ⟨3, 0, false, t⟩).fx (by rfl) Tryd.underlying23 rfl infoValue) rfl ⟨rfl, (HV.out.setX ⟨3, 0, false, t⟩).hb⟩

set_option maxRecDepth 100000 in
set_option maxHeartbeats 4000000 in
theorem rparse0 (k : Nat) (s : ByteArray) (w : World) (h1 : k ≠ 1) (h2 : k ≠ 2) (h3 : k ≠ 3) :
    Calls Tryd.prog 33 #[.int .u8 k, .string s] w fun e w' => e = .returned (.tuple #[.agg #[.int .u8 0, .int .i64 0, .bool false, .string ⟨#[]⟩], .int .i64 1]) ∧ Below w.heap.size w w' := by
  have t1 : ((k : Int) == 1) = false := beq_eq_false_iff_ne.2 (by omega)
  have t2 : ((k : Int) == 2) = false := beq_eq_false_iff_ne.2 (by omega)
  have t3 : ((k : Int) == 3) = false := beq_eq_false_iff_ne.2 (by omega)
  clear h1 h2 h3
  go_enter Tryd.func33, Tryd.ntmps33
  go_upto_region 2 with fail
  generalize hr0 : World.alloc (World.alloc w _) _ = r00
  have HV : Hid (TV zeroV ⟨k, 0, false, ⟨#[]⟩⟩ w r00) := by
    rw [← hr0]
    exact TV.new ⟨k, 0, false, ⟨#[]⟩⟩ w
  clear hr0
  obtain ⟨x0, x1, x2, x3⟩ := row4 HV.out.fx
  obtain ⟨e0, e1, e2, e3⟩ := free4 HV.out.fx
  go_wp2_with fail
  exact bodyPost_ret (v := .tuple #[.agg #[.int .u8 0, .int .i64 0, .bool false, .string ⟨#[]⟩], .int .i64 1]) (results_pair rfl _ _ w.heap.size 23 _ (0, 0) _ (.int .i64 1) rfl (HV.out.setX ⟨0, 0, false, ⟨#[]⟩⟩).fx (by rfl) Tryd.underlying23 rfl infoValue) rfl ⟨rfl, (HV.out.setX ⟨0, 0, false, ⟨#[]⟩⟩).hb⟩

theorem quote_longer : ∀ (l : List UInt8), l.length ≤ (W.quoteL l).length := by
  intro l
  unfold W.quoteL
  have h : ∀ m : List UInt8, m.length ≤ (W.quoteIn m).length := by
    intro m
    induction m with
    | nil => simp
    | cons c m ih =>
      simp only [W.quoteIn, List.length_append, List.length_cons]
      have := (W.byteQ_length c).1
      omega
  have := h l
  simp only [List.length_cons, List.length_append, List.length_nil]
  omega
theorem unq_short (s : ByteArray) (hs : s.size ≤ 17592186044416) : (⟨(W.unqL s.data.toList).1.toArray⟩ : ByteArray).size ≤ 9223372036854775803 := by
  have e : (⟨(W.unqL s.data.toList).1.toArray⟩ : ByteArray).size = (W.unqL s.data.toList).1.length := by show Array.size _ = _; simp
  rw [e]
  cases hq : (W.unqL s.data.toList).2
  · rw [(unq_not hq).1]; simp
  · have h := congrArg List.length (unq_yes hq)
    have h2 : s.data.toList.length = s.size := Array.length_toList
    have h3 : (W.unqL s.data.toList).1.length ≤ (W.quoteL (W.unqL s.data.toList).1).length := quote_longer _
    omega
theorem rparseV (k : Nat) (s : ByteArray) (w : World) (hs : s.size ≤ 17592186044416) :
    Calls Tryd.prog 33 #[.int .u8 k, .string s] w fun e w' => e = .returned (.tuple #[.agg #[.int .u8 (parseP k s).1.k, .int .i64 (parseP k s).1.n, .bool (parseP k s).1.b, .string (parseP k s).1.s], .int .i64 (parseP k s).2]) ∧ Below w.heap.size w w' := by
  unfold parseP
  by_cases h1 : k = 1
  · subst h1
    rw [if_pos rfl]
    cases hq : (W.parseW s.data.toList).2
    · rw [if_neg (by simp)]; exact rparse1_no s w hs hq
    · rw [if_pos rfl]; exact rparse1_yes s w hs hq
  · rw [if_neg h1]
    by_cases h2 : k = 2
    · subst h2
      rw [if_pos rfl]
      by_cases ht : s.data.toList = trueL
      · rw [if_pos ht]
        exact rparse2_t s w hs (decide_eq_true ht) (by rw [ht]; rfl)
      · rw [if_neg ht]
        by_cases hf : s.data.toList = falseL
        · rw [if_pos hf]
          exact rparse2_f s w hs (decide_eq_false ht) (decide_eq_true hf)
        · rw [if_neg hf]
          exact rparse2_no s w hs (decide_eq_false ht) (decide_eq_false hf)
    · rw [if_neg h2]
      by_cases h3 : k = 3
      · subst h3
        rw [if_pos rfl]
        cases hq : (W.unqL s.data.toList).2
        · rw [if_neg (by simp)]; exact rparse3_no s w hs hq
        · cases hok : ok ⟨3, 0, false, ⟨(W.unqL s.data.toList).1.toArray⟩⟩
          · rw [if_neg (by simp)]; exact rparse3_bad s w hs hq hok (unq_short s hs)
          · rw [if_pos ⟨rfl, rfl⟩]; exact rparse3_yes s w hs hq hok (unq_short s hs)
      · rw [if_neg h3]; exact rparse0 k s w h1 h2 h3
end Go.Proofs.YtohdifffdgoaaaaDoor
