/- value.Parse at numbers. -/
import Derived.Test.YteejphiklpnjhaaGreatDoorOA2
import Derived.Laws.StructEq
import Derived.Deep.RegionLaw
import Derived.Deep.RegionHeld3
namespace Go.Proofs.YteejphiklpnjhaaGreatDoor
set_option maxRecDepth 100000
set_option maxHeartbeats 16000000
open Go.RowKit Go.Maps
open Go.Lib (hid itoa)
namespace V
structure Val where
 k : Nat
 n : Int
 b : Bool
 s : ByteArray
def zeroV : Val := ⟨0, 0, false, ⟨#[]⟩⟩
end V
open V
theorem fresh2 (w : World) (o o' : Obj) : (((w.alloc o).alloc o').heap[w.heap.size]? = some o) ∧ (((w.alloc o).alloc o').heap[w.heap.size + 1]? = some o') := by
 have s1 : (w.alloc o).heap.size = w.heap.size + 1 := by simp
 refine ⟨?_, ?_⟩
 · rw [Lib.alloc_old _ _ _ (by omega)]; exact heap_alloc_new w _
 · rw [← s1]; exact heap_alloc_new _ _
theorem grown2 (w : World) (o o' : Obj) : Below w.heap.size w ((w.alloc o).alloc o') := ((Below.refl _ w).alloc (Nat.le_refl _) o).alloc (by simp) o'
theorem infoValue : (Tryz.prog.info? 49).map (·.size) = some 4 := by kernel_rfl
theorem vnumber_any (n : Int) (w : World) : Calls Tryz.prog 119 #[.int .i64 n] w fun e w' => e = .returned (.agg #[.int .u8 1, .int .i64 n, .bool false, .string ⟨#[]⟩]) ∧ Below w.heap.size w w' := by
 go_enter Tryz.func119, Tryz.ntmps119
 go_wp2
 exact bodyPost_ret (v := .agg #[.int .u8 1, .int .i64 n, .bool false, .string ⟨#[]⟩]) (results_cell_row rfl _ _ w.heap.size 49 _ (0, 0) _ rfl (heap_alloc_new w _) Tryz.underlying49 rfl infoValue) rfl ⟨rfl, (Below.refl _ w).alloc (Nat.le_refl _) _⟩
theorem after_held {w X w1 : World} (h : Hid (Below w.heap.size w X)) (b : Below X.heap.size X w1) : Hid (Below w.heap.size w w1) := h.out.trans (b.mono h.out.size)
theorem chk1 (n : Int) (w : World) :
  Calls Tryz.prog 123 #[.agg #[.int .u8 ((1 : Nat) : Int), .int .i64 n, .bool false, .string ⟨#[]⟩]] w fun e w' => e = .returned (.int .i64 0) ∧ Below w.heap.size w w' := by
 have t1 : (((1 : Nat) : Int) == 1) = true := rfl
 have t2 : (((1 : Nat) : Int) == 2) = false := rfl
 have t3 : (((1 : Nat) : Int) == 3) = false := rfl
 have hbA : Below w.heap.size w (w.alloc (.cells #[.int .u8 ((1 : Nat) : Int), .int .i64 n, .bool false, .string ⟨#[]⟩] 49)) := (Below.refl _ w).alloc (Nat.le_refl _) _
 have HA := hid hbA
 clear hbA
 go_enter Tryz.func123, Tryz.ntmps123
 go_wp2_with fail
 first | go_region_held3 (fun w' => w'.cell? ⟨w.heap.size, 0, none⟩ = some (.int .u8 1) ∧ w'.cell? ⟨w.heap.size, 1, none⟩ = some (.int .i64 n) ∧ w'.cell? ⟨w.heap.size, 2, none⟩ = some (.bool false) ∧ w'.cell? ⟨w.heap.size, 3, none⟩ = some (.string ⟨#[]⟩) ∧ w.heap.size < w'.heap.size ∧ Hid (Below w.heap.size w w'))
  (first
   | assumption
   | exact ⟨by simp, by simp, by simp, by simp, by simp, HA.out.drew⟩
   | (go_split_ands
      refine ⟨?_, ?_, ?_, ?_, ?_, ?_⟩
      · (rw [b1.cell (p := ⟨w.heap.size, 0, none⟩) (by assumption)]; assumption)
      · (rw [b1.cell (p := ⟨w.heap.size, 1, none⟩) (by assumption)]; assumption)
      · (rw [b1.cell (p := ⟨w.heap.size, 2, none⟩) (by assumption)]; assumption)
      · (rw [b1.cell (p := ⟨w.heap.size, 3, none⟩) (by assumption)]; assumption)
      · exact Nat.lt_of_lt_of_le (by assumption) b1.size
      · exact after_held (by assumption) b1))
  (first
   | (go_at_call 119
      refine (vnumber_any _ _).mono ?_
      rintro e w1 ⟨rfl, b1⟩)) | fail
 all_goals
  go_split_ands
  have B2 := hid (Hid.out (p := Below w.heap.size w _) (by assumption))
  go_wp2_with fail
  go_ret
  exact ⟨rfl, B2.out⟩
theorem list_dec (l m : List UInt8) : (l == m) = decide (l = m) := by
 by_cases h : l = m
 · subst h; simp
 · rw [decide_eq_false h, beq_eq_false_iff_ne]; exact h
structure TV (X Y : Val) (w r : World) : Prop where
 hb : Below w.heap.size w r
 fx : r.heap[w.heap.size]? = some (.cells #[.int .u8 X.k, .int .i64 X.n, .bool X.b, .string X.s] 49 (0, 0))
 fy : r.heap[w.heap.size + 1]? = some (.cells #[.int .u8 Y.k, .int .i64 Y.n, .bool Y.b, .string Y.s] 49 (0, 0))
theorem TV.below {X Y : Val} {w r r' : World} (h : TV X Y w r) (b : Below r.heap.size r r') : TV X Y w r' where
 hb := h.hb.trans (b.mono h.hb.size)
 fx := (b.block _ (Go.lt_of_block h.fx)).trans h.fx
 fy := (b.block _ (Go.lt_of_block h.fy)).trans h.fy
theorem oth4_set {w : World} {b c : Nat} (hc : c ≠ b) (x y z u : Value) : ((((w.setCell ⟨b, 0, none⟩ x).setCell ⟨b, 1, none⟩ y).setCell ⟨b, 2, none⟩ z).setCell ⟨b, 3, none⟩ u).heap[c]? = w.heap[c]? := by
 rw [Below.heap_setCell _ _ _ _ hc, Below.heap_setCell _ _ _ _ hc, Below.heap_setCell _ _ _ _ hc, Below.heap_setCell _ _ _ _ hc]
theorem TV.setX {X Y : Val} {w r : World} (h : TV X Y w r) (V : Val) : TV V Y w ((((r.setCell ⟨w.heap.size, 0, none⟩ (.int .u8 V.k)).setCell ⟨w.heap.size, 1, none⟩ (.int .i64 V.n)).setCell ⟨w.heap.size, 2, none⟩ (.bool V.b)).setCell ⟨w.heap.size, 3, none⟩ (.string V.s)) where
 hb := below4_set h.hb (Nat.le_refl _) _ _ _ _
 fx := row4_set h.fx _ _ _ _
 fy := (oth4_set (by omega) _ _ _ _).trans h.fy
theorem TV.setY {X Y : Val} {w r : World} (h : TV X Y w r) (V : Val) : TV X V w ((((r.setCell ⟨w.heap.size + 1, 0, none⟩ (.int .u8 V.k)).setCell ⟨w.heap.size + 1, 1, none⟩ (.int .i64 V.n)).setCell ⟨w.heap.size + 1, 2, none⟩ (.bool V.b)).setCell ⟨w.heap.size + 1, 3, none⟩ (.string V.s)) where
 hb := below4_set h.hb (by omega) _ _ _ _
 fx := (oth4_set (by omega) _ _ _ _).trans h.fx
 fy := row4_set h.fy _ _ _ _
theorem TV.new (V : Val) (w : World) : TV zeroV V w ((w.alloc (.cells #[.int .u8 0, .int .i64 0, .bool false, .string ⟨#[]⟩] 49)).alloc (.cells #[.int .u8 V.k, .int .i64 V.n, .bool V.b, .string V.s] 49)) where
 hb := grown2 w _ _
 fx := (fresh2 w _ _).1
 fy := (fresh2 w _ _).2
theorem onum_back (l : List UInt8) (h : (W.parseW l).2 = true) : itoa (W.parseW l).1 = l := by
 unfold W.parseW at h ⊢
 cases hp : W.libP l with
 | none => rw [hp] at h; cases h
 | some n =>
   rw [hp] at h
   simp only [W.holdTo] at h ⊢
   split at h
   · rename_i e; rw [if_pos e]; exact e
   · cases h
theorem onum_not (l : List UInt8) (h : (W.parseW l).2 = false) : itoa (W.parseW l).1 ≠ l := by
 intro e
 have hf : W.Fits (W.parseW l).1 := by
  unfold W.parseW
  cases hp : W.libP l with
  | none => exact (show W.Fits 0 from ⟨by decide, by decide⟩)
  | some v =>
    have := W.lib_fits l v hp
    show W.Fits (if _ then _ else _ : Int × Bool).1
    split
    · exact this
    · exact (show W.Fits 0 from ⟨by decide, by decide⟩)
 have h2 : ∀ v, W.Fits v → W.parseW (itoa v) = (v, true) := fun v hv => by
  unfold W.parseW
  rw [W.lib_itoa _ hv]
  exact if_pos rfl
 have h2 := h2 _ hf
 rw [e] at h2
 rw [h2] at h
 cases h
theorem otext_int (n : Int) (w : World) (hE : EnvO w) (h0 : -9223372036854775808 ≤ n) (h1 : n ≤ 9223372036854775807) :
  Calls Tryz.prog 124 #[.agg #[.int .u8 ((1 : Nat) : Int), .int .i64 n, .bool false, .string ⟨#[]⟩]] w fun e w' => e = .returned (.string ⟨(itoa n).toArray⟩) ∧ Below w.heap.size w w' := by
 have cC := chk1 n (w.alloc (.cells #[.int .u8 ((1 : Nat) : Int), .int .i64 n, .bool false, .string ⟨#[]⟩] 49))
 have cN := fun X (hX : EnvO X) => wNumber_any n X h0 h1 hX.p
 obtain ⟨r, hr⟩ : ∃ r, itoa n = r := ⟨_, rfl⟩
 rw [hr] at cN ⊢
 have HE := hid hE
 clear hr
 have hB := (Below.refl w.heap.size w).alloc (Nat.le_refl _) (.cells #[.int .u8 ((1 : Nat) : Int), .int .i64 n, .bool false, .string ⟨#[]⟩] 49)
 have hg := heap_alloc_new w (.cells #[.int .u8 ((1 : Nat) : Int), .int .i64 n, .bool false, .string ⟨#[]⟩] 49)
 have hz : w.heap.size < (w.alloc (.cells #[.int .u8 ((1 : Nat) : Int), .int .i64 n, .bool false, .string ⟨#[]⟩] 49)).heap.size := by simp
 have HB := hid hB
 have HG := hid hg
 clear hB hg hE
 go_enter Tryz.func124, Tryz.ntmps124
 go_wp2_with fail
 refine cC.mono ?_
 rintro e w1 ⟨rfl, b1⟩
 have hg := (b1.block w.heap.size hz).trans HG.out
 obtain ⟨x0, x1, x2, x3⟩ := row4 hg
 have B1 := hid (HB.out.trans (b1.mono HB.out.size))
 clear b1 hg HG cC
 go_wp2_with fail
 refine (cN _ (HE.out.below B1.out)).mono ?_
 rintro e w2 ⟨rfl, b2⟩
 have B2 := hid (B1.out.trans (b2.mono B1.out.size))
 clear b2 cN
 go_wp2_with fail
 go_ret
 exact ⟨rfl, B2.out⟩
theorem parse1_yes (s : ByteArray) (w : World) (hE : EnvO w) (hs : s.size ≤ 17592186044416) (hq : (O.numOf s.data.toList).2 = true) :
  Calls Tryz.prog 93 #[.int .u8 1, .string s] w fun e w' => e = .returned (.tuple #[.agg #[.int .u8 1, .int .i64 (O.numOf s.data.toList).1, .bool false, .string ⟨#[]⟩], .int .i64 0]) ∧ Below w.heap.size w w' := by
 have cP := fun X (hX : EnvO X) => num_any s X (by omega) hX
 have hF : W.Fits (O.numOf s.data.toList).1 := by
  have h := parseW_fits s.data.toList
  have e1 : IntKind.i64.min = -9223372036854775808 := by decide
  have e2 : IntKind.i64.max = 9223372036854775807 := by decide
  have h2 : (decide (IntKind.i64.min ≤ (W.parseW s.data.toList).1) && decide ((W.parseW s.data.toList).1 ≤ IntKind.i64.max)) = true := h
  rw [e1, e2, Bool.and_eq_true, decide_eq_true_eq, decide_eq_true_eq] at h2
  exact h2
 have hB := onum_back s.data.toList hq
 unfold W.Fits at hF
 obtain ⟨n, hn⟩ : ∃ n, (O.numOf s.data.toList).1 = n := ⟨_, rfl⟩
 rw [show W.parseW s.data.toList = O.numOf s.data.toList from rfl, hn] at hB
 simp only [hn, hq] at cP
 rw [hn] at hF
 have cN := vnumber_any n
 simp only [hn]
 have cC := fun X => chk1 n X
 have cT := fun X (hX : EnvO X) => otext_int n X hX (by omega) (by omega)
 obtain ⟨T, hT⟩ : ∃ T : ByteArray, (⟨(itoa n).toArray⟩ : ByteArray) = T := ⟨_, rfl⟩
 rw [hT] at cT
 have q0 : (T.toList == s.toList) = true := by
  rw [Lib.toList_data, Lib.toList_data, list_dec, ← hT]
  exact decide_eq_true hB
 have HE := hid hE
 clear hE hT hB hq hn
 go_enter Tryz.func93, Tryz.ntmps93
 go_upto_region 2 with fail
 generalize hr0 : World.alloc (World.alloc w _) _ = r00
 have HV : Hid (TV zeroV zeroV w r00) := by
  rw [← hr0]
  exact TV.new zeroV w
 clear hr0
 go_wp2_with fail
 refine (cP _ (HE.out.below HV.out.hb)).mono ?_
 rintro e w' ⟨rfl, bb⟩
 have HV' := hid (HV.out.below bb)
 clear bb HV cP
 have HV := hid HV'.out
 clear HV'
 go_wp2_with fail
 refine (cN _).mono ?_
 rintro e w' ⟨rfl, bb⟩
 have HV' := hid (HV.out.below bb)
 clear bb HV cN
 have HV := hid HV'.out
 clear HV'
 obtain ⟨y0, y1, y2, y3⟩ := row4 HV.out.fy
 obtain ⟨e0, e1, e2, e3⟩ := free4 HV.out.fy
 go_upto_region 12 with fail
 have HV' := hid (HV.out.setY ⟨1, n, false, ⟨#[]⟩⟩)
 clear HV y0 y1 y2 y3 e0 e1 e2 e3
 have HV := hid HV'.out
 clear HV'
 generalize World.setCell _ _ _ = r0 at *
 obtain ⟨y0, y1, y2, y3⟩ := row4 HV.out.fy
 go_wp2_with fail
 refine (cC _).mono ?_
 rintro e w' ⟨rfl, bb⟩
 have HV' := hid (HV.out.below bb)
 clear bb HV y0 y1 y2 y3 cC
 have HV := hid HV'.out
 clear HV'
 obtain ⟨y0, y1, y2, y3⟩ := row4 HV.out.fy
 go_wp2_with fail
 refine (cT _ (HE.out.below HV.out.hb)).mono ?_
 rintro e w' ⟨rfl, bb⟩
 have HV' := hid (HV.out.below bb)
 clear bb HV y0 y1 y2 y3 cT
 have HV := hid HV'.out
 clear HV'
 obtain ⟨y0, y1, y2, y3⟩ := row4 HV.out.fy
 obtain ⟨x0, x1, x2, x3⟩ := row4 HV.out.fx
 obtain ⟨e0, e1, e2, e3⟩ := free4 HV.out.fx
 go_wp2_with fail
 exact bodyPost_ret (v := .tuple #[.agg #[.int .u8 1, .int .i64 n, .bool false, .string ⟨#[]⟩], .int .i64 0]) (results_pair rfl _ _ w.heap.size 49 _ (0, 0) _ (.int .i64 0) rfl (HV.out.setX ⟨1, n, false, ⟨#[]⟩⟩).fx (by rfl) Tryz.underlying49 rfl infoValue) rfl ⟨rfl, (HV.out.setX ⟨1, n, false, ⟨#[]⟩⟩).hb⟩
theorem parse1_no (s : ByteArray) (w : World) (hE : EnvO w) (hs : s.size ≤ 17592186044416) (hq : (O.numOf s.data.toList).2 = false) :
  Calls Tryz.prog 93 #[.int .u8 1, .string s] w fun e w' => e = .returned (.tuple #[.agg #[.int .u8 0, .int .i64 0, .bool false, .string ⟨#[]⟩], .int .i64 4]) ∧ Below w.heap.size w w' := by
 have cP := fun X (hX : EnvO X) => num_any s X (by omega) hX
 have hF : W.Fits (O.numOf s.data.toList).1 := by
  have h := parseW_fits s.data.toList
  have e1 : IntKind.i64.min = -9223372036854775808 := by decide
  have e2 : IntKind.i64.max = 9223372036854775807 := by decide
  have h2 : (decide (IntKind.i64.min ≤ (W.parseW s.data.toList).1) && decide ((W.parseW s.data.toList).1 ≤ IntKind.i64.max)) = true := h
  rw [e1, e2, Bool.and_eq_true, decide_eq_true_eq, decide_eq_true_eq] at h2
  exact h2
 have hB := onum_not s.data.toList hq
 unfold W.Fits at hF
 obtain ⟨n, hn⟩ : ∃ n, (O.numOf s.data.toList).1 = n := ⟨_, rfl⟩
 rw [show W.parseW s.data.toList = O.numOf s.data.toList from rfl, hn] at hB
 simp only [hn, hq] at cP
 rw [hn] at hF
 have cN := vnumber_any n
 have cC := fun X => chk1 n X
 have cT := fun X (hX : EnvO X) => otext_int n X hX (by omega) (by omega)
 obtain ⟨T, hT⟩ : ∃ T : ByteArray, (⟨(itoa n).toArray⟩ : ByteArray) = T := ⟨_, rfl⟩
 rw [hT] at cT
 have q0 : (T.toList == s.toList) = false := by
  rw [Lib.toList_data, Lib.toList_data, list_dec, ← hT]
  exact decide_eq_false hB
 have HE := hid hE
 clear hE hT hB hq hn
 go_enter Tryz.func93, Tryz.ntmps93
 go_upto_region 2 with fail
 generalize hr0 : World.alloc (World.alloc w _) _ = r00
 have HV : Hid (TV zeroV zeroV w r00) := by
  rw [← hr0]
  exact TV.new zeroV w
 clear hr0
 go_wp2_with fail
 refine (cP _ (HE.out.below HV.out.hb)).mono ?_
 rintro e w' ⟨rfl, bb⟩
 have HV' := hid (HV.out.below bb)
 clear bb HV cP
 have HV := hid HV'.out
 clear HV'
 go_wp2_with fail
 refine (cN _).mono ?_
 rintro e w' ⟨rfl, bb⟩
 have HV' := hid (HV.out.below bb)
 clear bb HV cN
 have HV := hid HV'.out
 clear HV'
 obtain ⟨y0, y1, y2, y3⟩ := row4 HV.out.fy
 obtain ⟨e0, e1, e2, e3⟩ := free4 HV.out.fy
 go_upto_region 12 with fail
 have HV' := hid (HV.out.setY ⟨1, n, false, ⟨#[]⟩⟩)
 clear HV y0 y1 y2 y3 e0 e1 e2 e3
 have HV := hid HV'.out
 clear HV'
 generalize World.setCell _ _ _ = r0 at *
 obtain ⟨y0, y1, y2, y3⟩ := row4 HV.out.fy
 go_wp2_with fail
 refine (cC _).mono ?_
 rintro e w' ⟨rfl, bb⟩
 have HV' := hid (HV.out.below bb)
 clear bb HV y0 y1 y2 y3 cC
 have HV := hid HV'.out
 clear HV'
 obtain ⟨y0, y1, y2, y3⟩ := row4 HV.out.fy
 go_wp2_with fail
 refine (cT _ (HE.out.below HV.out.hb)).mono ?_
 rintro e w' ⟨rfl, bb⟩
 have HV' := hid (HV.out.below bb)
 clear bb HV y0 y1 y2 y3 cT
 have HV := hid HV'.out
 clear HV'
 obtain ⟨y0, y1, y2, y3⟩ := row4 HV.out.fy
 obtain ⟨x0, x1, x2, x3⟩ := row4 HV.out.fx
 obtain ⟨e0, e1, e2, e3⟩ := free4 HV.out.fx
 go_wp2_with fail
 exact bodyPost_ret (v := .tuple #[.agg #[.int .u8 0, .int .i64 0, .bool false, .string ⟨#[]⟩], .int .i64 4]) (results_pair rfl _ _ w.heap.size 49 _ (0, 0) _ (.int .i64 4) rfl (HV.out.setX ⟨0, 0, false, ⟨#[]⟩⟩).fx (by rfl) Tryz.underlying49 rfl infoValue) rfl ⟨rfl, (HV.out.setX ⟨0, 0, false, ⟨#[]⟩⟩).hb⟩
end Go.Proofs.YteejphiklpnjhaaGreatDoor
