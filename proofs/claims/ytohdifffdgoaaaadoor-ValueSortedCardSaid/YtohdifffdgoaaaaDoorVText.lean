/- The walks of Text: the program's and the document's. -/
import Derived.Test.YtohdifffdgoaaaaDoorVOrd
import Derived.Test.YtohdifffdgoaaaaDoorVCheckP
import Derived.Test.YtohdifffdgoaaaaDoorWNums
import Derived.Test.YtohdifffdgoaaaaDoorWRefU
namespace Go.Proofs.YtohdifffdgoaaaaDoor
open Go.RowKit
open Go.Lib (hid itoa)
open V
/-- what values' texts ask of the world -/
structure VEnv (w : World) : Prop where
  tabs : Tabs w
  nums : Nums w
theorem VEnv.below {w w' : World} (h : VEnv w) (hb : Below w.heap.size w w') : VEnv w' :=
  ⟨Utf8Tabs_below h.tabs hb, h.nums.below hb h.nums.lts.1 h.nums.lts.2.1 h.nums.lts.2.2⟩
namespace V
def trueL : List UInt8 := [116, 114, 117, 101]
def falseL : List UInt8 := [102, 97, 108, 115, 101]
/-- a value's text -/
def textL (v : Val) : List UInt8 := if ok v = false then [] else if v.k = 1 then itoa v.n else if v.k = 2 then (if v.b then trueL else falseL) else W.quoteL v.s.data.toList
theorem ok_kinds {v : Val} (h : ok v = true) : v.k = 1 ∨ v.k = 2 ∨ v.k = 3 := by
  simp [ok] at h
  rcases h with (h | h) | h
  · exact Or.inl h.1
  · exact Or.inr (Or.inl h.1)
  · exact Or.inr (Or.inr h.1)
theorem ok_size {v : Val} (h : ok v = true) (h3 : v.k = 3) : v.s.size ≤ 1024 := by
  simp [ok, h3] at h
  exact h.2.2.1
end V

set_option maxRecDepth 100000 in
set_option maxHeartbeats 4000000 in
theorem text_bad (k : Nat) (n : Int) (b : Bool) (s : ByteArray) (w : World) (hE : VEnv w) (hv : ok ⟨k, n, b, s⟩ = false) :
    Calls Tryd.prog 38 #[.agg #[.int .u8 k, .int .i64 n, .bool b, .string s]] w fun e w' => e = .returned (.string ⟨([]).toArray⟩) ∧ Below w.heap.size w w' := by
  have cC := check_any k n b s (w.alloc (.cells #[.int .u8 k, .int .i64 n, .bool b, .string s] 23)) (Utf8Tabs_below hE.tabs ((Below.refl w.heap.size w).alloc (Nat.le_refl _) (.cells #[.int .u8 k, .int .i64 n, .bool b, .string s] 23)))
  rw [show okE ⟨k, n, b, s⟩ = 1 by simp [okE, hv]] at cC
  have hB := (Below.refl w.heap.size w).alloc (Nat.le_refl _) (.cells #[.int .u8 k, .int .i64 n, .bool b, .string s] 23)
  have hg := heap_alloc_new w (.cells #[.int .u8 k, .int .i64 n, .bool b, .string s] 23)
  have hz : w.heap.size < (w.alloc (.cells #[.int .u8 k, .int .i64 n, .bool b, .string s] 23)).heap.size := by simp
  have HB := hid hB
  have HG := hid hg
  clear hv hB hg hE
  go_enter Tryd.func38, Tryd.ntmps38
  go_wp2_with fail
  refine cC.mono ?_
  rintro e w1 ⟨rfl, b1⟩
  have hg := (b1.block w.heap.size hz).trans HG.out
  obtain ⟨x0, x1, x2, x3⟩ := row4 hg
  have B1 := hid (HB.out.trans (b1.mono HB.out.size))
  clear b1 hg HG x0 x1 x2 x3
  go_wp2_with fail
  go_ret
  exact ⟨rfl, B1.out⟩

set_option maxRecDepth 100000 in
set_option maxHeartbeats 4000000 in
theorem text_int (k : Nat) (n : Int) (b : Bool) (s : ByteArray) (w : World) (hE : VEnv w) (h0 : -9223372036854775808 ≤ n) (h1 : n ≤ 9223372036854775807) (hv : ok ⟨k, n, b, s⟩ = true) (hk : k = 1) :
    Calls Tryd.prog 38 #[.agg #[.int .u8 k, .int .i64 n, .bool b, .string s]] w fun e w' => e = .returned (.string ⟨(itoa n).toArray⟩) ∧ Below w.heap.size w w' := by
  have cC := check_any k n b s (w.alloc (.cells #[.int .u8 k, .int .i64 n, .bool b, .string s] 23)) (Utf8Tabs_below hE.tabs ((Below.refl w.heap.size w).alloc (Nat.le_refl _) (.cells #[.int .u8 k, .int .i64 n, .bool b, .string s] 23)))
  rw [show okE ⟨k, n, b, s⟩ = 0 by simp [okE, hv]] at cC
  have t1 : ((k : Int) == 1) = true := by rw [hk]; rfl
  have t2 : ((k : Int) == 2) = false := by rw [hk]; rfl
  have t3 : ((k : Int) == 3) = false := by rw [hk]; rfl
  have cN := fun X (hX : Pows X) => number_any n X h0 h1 hX
  obtain ⟨r, hr⟩ : ∃ r, itoa n = r := ⟨_, rfl⟩
  rw [hr] at cN ⊢
  have HE := hid hE
  clear hr
  have hB := (Below.refl w.heap.size w).alloc (Nat.le_refl _) (.cells #[.int .u8 k, .int .i64 n, .bool b, .string s] 23)
  have hg := heap_alloc_new w (.cells #[.int .u8 k, .int .i64 n, .bool b, .string s] 23)
  have hz : w.heap.size < (w.alloc (.cells #[.int .u8 k, .int .i64 n, .bool b, .string s] 23)).heap.size := by simp
  have HB := hid hB
  have HG := hid hg
  clear hv hB hg hk hE
  go_enter Tryd.func38, Tryd.ntmps38
  go_wp2_with fail
  refine cC.mono ?_
  rintro e w1 ⟨rfl, b1⟩
  have hg := (b1.block w.heap.size hz).trans HG.out
  obtain ⟨x0, x1, x2, x3⟩ := row4 hg
  have B1 := hid (HB.out.trans (b1.mono HB.out.size))
  clear b1 hg HG cC
  go_wp2_with fail
  refine (cN _ (HE.out.below B1.out).nums.pows).mono ?_
  rintro e w2 ⟨rfl, b2⟩
  have B2 := hid (B1.out.trans (b2.mono B1.out.size))
  clear b2 cN
  go_wp2_with fail
  go_ret
  exact ⟨rfl, B2.out⟩

set_option maxRecDepth 100000 in
set_option maxHeartbeats 4000000 in
theorem text_true (k : Nat) (n : Int) (b : Bool) (s : ByteArray) (w : World) (hE : VEnv w) (hv : ok ⟨k, n, b, s⟩ = true) (hk : k = 2) (hb : b = true) :
    Calls Tryd.prog 38 #[.agg #[.int .u8 k, .int .i64 n, .bool b, .string s]] w fun e w' => e = .returned (.string ⟨(trueL).toArray⟩) ∧ Below w.heap.size w w' := by
  subst hb
  have cC := check_any k n true s (w.alloc (.cells #[.int .u8 k, .int .i64 n, .bool true, .string s] 23)) (Utf8Tabs_below hE.tabs ((Below.refl w.heap.size w).alloc (Nat.le_refl _) (.cells #[.int .u8 k, .int .i64 n, .bool true, .string s] 23)))
  rw [show okE ⟨k, n, true, s⟩ = 0 by simp [okE, hv]] at cC
  have t1 : ((k : Int) == 1) = false := by rw [hk]; rfl
  have t2 : ((k : Int) == 2) = true := by rw [hk]; rfl
  have t3 : ((k : Int) == 3) = false := by rw [hk]; rfl
  have hB := (Below.refl w.heap.size w).alloc (Nat.le_refl _) (.cells #[.int .u8 k, .int .i64 n, .bool true, .string s] 23)
  have hg := heap_alloc_new w (.cells #[.int .u8 k, .int .i64 n, .bool true, .string s] 23)
  have hz : w.heap.size < (w.alloc (.cells #[.int .u8 k, .int .i64 n, .bool true, .string s] 23)).heap.size := by simp
  have HB := hid hB
  have HG := hid hg
  clear hv hB hg hk
  go_enter Tryd.func38, Tryd.ntmps38
  go_wp2_with fail
  refine cC.mono ?_
  rintro e w1 ⟨rfl, b1⟩
  have hg := (b1.block w.heap.size hz).trans HG.out
  obtain ⟨x0, x1, x2, x3⟩ := row4 hg
  have B1 := hid (HB.out.trans (b1.mono HB.out.size))
  have hB2 := hid (B1.out.alloc B1.out.size (.cells #[.string ⟨#[102, 97, 108, 115, 101]⟩, .string ⟨#[116, 114, 117, 101]⟩] 9))
  have cB := boolean_any true
  have bA := (Below.refl w1.heap.size w1).alloc (Nat.le_refl _) (.cells #[.string ⟨#[102, 97, 108, 115, 101]⟩, .string ⟨#[116, 114, 117, 101]⟩] 9)
  have g2 := (bA.cell (p := ⟨w.heap.size, 2, none⟩) (by show w.heap.size < _; have := b1.size; omega)).trans x2
  clear bA
  clear b1 hg HG cC
  go_wp2_with fail
  refine (cB _).mono ?_
  rintro e w2 ⟨rfl, rfl⟩
  go_wp2_with fail
  go_ret
  exact ⟨rfl, hB2.out⟩

set_option maxRecDepth 100000 in
set_option maxHeartbeats 4000000 in
theorem text_false (k : Nat) (n : Int) (b : Bool) (s : ByteArray) (w : World) (hE : VEnv w) (hv : ok ⟨k, n, b, s⟩ = true) (hk : k = 2) (hb : b = false) :
    Calls Tryd.prog 38 #[.agg #[.int .u8 k, .int .i64 n, .bool b, .string s]] w fun e w' => e = .returned (.string ⟨(falseL).toArray⟩) ∧ Below w.heap.size w w' := by
  subst hb
  have cC := check_any k n false s (w.alloc (.cells #[.int .u8 k, .int .i64 n, .bool false, .string s] 23)) (Utf8Tabs_below hE.tabs ((Below.refl w.heap.size w).alloc (Nat.le_refl _) (.cells #[.int .u8 k, .int .i64 n, .bool false, .string s] 23)))
  rw [show okE ⟨k, n, false, s⟩ = 0 by simp [okE, hv]] at cC
  have t1 : ((k : Int) == 1) = false := by rw [hk]; rfl
  have t2 : ((k : Int) == 2) = true := by rw [hk]; rfl
  have t3 : ((k : Int) == 3) = false := by rw [hk]; rfl
  have hB := (Below.refl w.heap.size w).alloc (Nat.le_refl _) (.cells #[.int .u8 k, .int .i64 n, .bool false, .string s] 23)
  have hg := heap_alloc_new w (.cells #[.int .u8 k, .int .i64 n, .bool false, .string s] 23)
  have hz : w.heap.size < (w.alloc (.cells #[.int .u8 k, .int .i64 n, .bool false, .string s] 23)).heap.size := by simp
  have HB := hid hB
  have HG := hid hg
  clear hv hB hg hk
  go_enter Tryd.func38, Tryd.ntmps38
  go_wp2_with fail
  refine cC.mono ?_
  rintro e w1 ⟨rfl, b1⟩
  have hg := (b1.block w.heap.size hz).trans HG.out
  obtain ⟨x0, x1, x2, x3⟩ := row4 hg
  have B1 := hid (HB.out.trans (b1.mono HB.out.size))
  have hB2 := hid (B1.out.alloc B1.out.size (.cells #[.string ⟨#[102, 97, 108, 115, 101]⟩, .string ⟨#[116, 114, 117, 101]⟩] 9))
  have cB := boolean_any false
  have bA := (Below.refl w1.heap.size w1).alloc (Nat.le_refl _) (.cells #[.string ⟨#[102, 97, 108, 115, 101]⟩, .string ⟨#[116, 114, 117, 101]⟩] 9)
  have g2 := (bA.cell (p := ⟨w.heap.size, 2, none⟩) (by show w.heap.size < _; have := b1.size; omega)).trans x2
  clear bA
  clear b1 hg HG cC
  go_wp2_with fail
  refine (cB _).mono ?_
  rintro e w2 ⟨rfl, rfl⟩
  go_wp2_with fail
  go_ret
  exact ⟨rfl, hB2.out⟩

set_option maxRecDepth 100000 in
set_option maxHeartbeats 4000000 in
theorem text_text (k : Nat) (n : Int) (b : Bool) (s : ByteArray) (w : World) (hE : VEnv w) (hv : ok ⟨k, n, b, s⟩ = true) (hk : k = 3) :
    Calls Tryd.prog 38 #[.agg #[.int .u8 k, .int .i64 n, .bool b, .string s]] w fun e w' => e = .returned (.string ⟨(W.quoteL s.data.toList).toArray⟩) ∧ Below w.heap.size w w' := by
  have hs := ok_size hv hk
  have cC := check_any k n b s (w.alloc (.cells #[.int .u8 k, .int .i64 n, .bool b, .string s] 23)) (Utf8Tabs_below hE.tabs ((Below.refl w.heap.size w).alloc (Nat.le_refl _) (.cells #[.int .u8 k, .int .i64 n, .bool b, .string s] 23)))
  rw [show okE ⟨k, n, b, s⟩ = 0 by simp [okE, hv]] at cC
  have t1 : ((k : Int) == 1) = false := by rw [hk]; rfl
  have t2 : ((k : Int) == 2) = false := by rw [hk]; rfl
  have t3 : ((k : Int) == 3) = true := by rw [hk]; rfl
  have cN := fun X => quote_any s X (by simp only at hs; omega)
  obtain ⟨r, hr⟩ : ∃ r, W.quoteL s.data.toList = r := ⟨_, rfl⟩
  rw [hr] at cN ⊢
  clear hr hs
  have hB := (Below.refl w.heap.size w).alloc (Nat.le_refl _) (.cells #[.int .u8 k, .int .i64 n, .bool b, .string s] 23)
  have hg := heap_alloc_new w (.cells #[.int .u8 k, .int .i64 n, .bool b, .string s] 23)
  have hz : w.heap.size < (w.alloc (.cells #[.int .u8 k, .int .i64 n, .bool b, .string s] 23)).heap.size := by simp
  have HB := hid hB
  have HG := hid hg
  clear hv hB hg hk
  go_enter Tryd.func38, Tryd.ntmps38
  go_wp2_with fail
  refine cC.mono ?_
  rintro e w1 ⟨rfl, b1⟩
  have hg := (b1.block w.heap.size hz).trans HG.out
  obtain ⟨x0, x1, x2, x3⟩ := row4 hg
  have B1 := hid (HB.out.trans (b1.mono HB.out.size))
  clear b1 hg HG cC
  go_wp2_with fail
  refine (cN _).mono ?_
  rintro e w2 ⟨rfl, b2⟩
  have B2 := hid (B1.out.trans (b2.mono B1.out.size))
  clear b2 cN
  go_wp2_with fail
  go_ret
  exact ⟨rfl, B2.out⟩

theorem textV (v : Val) (w : World) (hE : VEnv w) (h0 : -9223372036854775808 ≤ v.n) (h1 : v.n ≤ 9223372036854775807) :
    Calls Tryd.prog 38 #[.agg #[.int .u8 v.k, .int .i64 v.n, .bool v.b, .string v.s]] w fun e w' => e = .returned (.string ⟨(textL v).toArray⟩) ∧ Below w.heap.size w w' := by
  obtain ⟨k, n, b, s⟩ := v
  unfold textL
  cases hv : ok ⟨k, n, b, s⟩
  · rw [if_pos rfl]; exact text_bad k n b s w hE hv
  · rw [if_neg (by simp)]
    rcases ok_kinds hv with hk | hk | hk
    · rw [if_pos hk]; exact text_int k n b s w hE h0 h1 hv hk
    · have hk' : k = 2 := hk
      rw [if_neg (show ¬ k = 1 by omega), if_pos hk']
      cases b
      · exact text_false k n false s w hE hv hk' rfl
      · exact text_true k n true s w hE hv hk' rfl
    · have hk' : k = 3 := hk
      rw [if_neg (show ¬ k = 1 by omega), if_neg (show ¬ k = 2 by omega)]; exact text_text k n b s w hE hv hk'

set_option maxRecDepth 100000 in
set_option maxHeartbeats 4000000 in
theorem rtext_bad (k : Nat) (n : Int) (b : Bool) (s : ByteArray) (w : World) (hs : s.size ≤ 140737488351232) (hv : ok ⟨k, n, b, s⟩ = false) :
    Calls Tryd.prog 39 #[.agg #[.int .u8 k, .int .i64 n, .bool b, .string s]] w fun e w' => e = .returned (.string ⟨([]).toArray⟩) ∧ Below w.heap.size w w' := by
  have cC := refCheck_any k n b s (w.alloc (.cells #[.int .u8 k, .int .i64 n, .bool b, .string s] 23)) (by omega)
  rw [show okE ⟨k, n, b, s⟩ = 1 by simp [okE, hv]] at cC
  have hB := (Below.refl w.heap.size w).alloc (Nat.le_refl _) (.cells #[.int .u8 k, .int .i64 n, .bool b, .string s] 23)
  have hg := heap_alloc_new w (.cells #[.int .u8 k, .int .i64 n, .bool b, .string s] 23)
  have hz : w.heap.size < (w.alloc (.cells #[.int .u8 k, .int .i64 n, .bool b, .string s] 23)).heap.size := by simp
  have HB := hid hB
  have HG := hid hg
  clear hv hB hg  hs
  go_enter Tryd.func39, Tryd.ntmps39
  go_wp2_with fail
  refine cC.mono ?_
  rintro e w1 ⟨rfl, b1⟩
  have hg := (b1.block w.heap.size hz).trans HG.out
  obtain ⟨x0, x1, x2, x3⟩ := row4 hg
  have B1 := hid (HB.out.trans (b1.mono HB.out.size))
  clear b1 hg HG x0 x1 x2 x3
  go_wp2_with fail
  go_ret
  exact ⟨rfl, B1.out⟩

set_option maxRecDepth 100000 in
set_option maxHeartbeats 4000000 in
theorem rtext_int (k : Nat) (n : Int) (b : Bool) (s : ByteArray) (w : World) (hs : s.size ≤ 140737488351232) (h0 : -9223372036854775808 ≤ n) (h1 : n ≤ 9223372036854775807) (hv : ok ⟨k, n, b, s⟩ = true) (hk : k = 1) :
    Calls Tryd.prog 39 #[.agg #[.int .u8 k, .int .i64 n, .bool b, .string s]] w fun e w' => e = .returned (.string ⟨(itoa n).toArray⟩) ∧ Below w.heap.size w w' := by
  have cC := refCheck_any k n b s (w.alloc (.cells #[.int .u8 k, .int .i64 n, .bool b, .string s] 23)) (by omega)
  rw [show okE ⟨k, n, b, s⟩ = 0 by simp [okE, hv]] at cC
  have t1 : ((k : Int) == 1) = true := by rw [hk]; rfl
  have t2 : ((k : Int) == 2) = false := by rw [hk]; rfl
  have t3 : ((k : Int) == 3) = false := by rw [hk]; rfl
  have cN := fun X => refNumber_any n X h0 h1
  obtain ⟨r, hr⟩ : ∃ r, itoa n = r := ⟨_, rfl⟩
  rw [hr] at cN ⊢
  clear hr
  have hB := (Below.refl w.heap.size w).alloc (Nat.le_refl _) (.cells #[.int .u8 k, .int .i64 n, .bool b, .string s] 23)
  have hg := heap_alloc_new w (.cells #[.int .u8 k, .int .i64 n, .bool b, .string s] 23)
  have hz : w.heap.size < (w.alloc (.cells #[.int .u8 k, .int .i64 n, .bool b, .string s] 23)).heap.size := by simp
  have HB := hid hB
  have HG := hid hg
  clear hv hB hg hk hs
  go_enter Tryd.func39, Tryd.ntmps39
  go_wp2_with fail
  refine cC.mono ?_
  rintro e w1 ⟨rfl, b1⟩
  have hg := (b1.block w.heap.size hz).trans HG.out
  obtain ⟨x0, x1, x2, x3⟩ := row4 hg
  have B1 := hid (HB.out.trans (b1.mono HB.out.size))
  clear b1 hg HG cC
  go_wp2_with fail
  refine (cN _).mono ?_
  rintro e w2 ⟨rfl, b2⟩
  have B2 := hid (B1.out.trans (b2.mono B1.out.size))
  clear b2 cN
  go_wp2_with fail
  go_ret
  exact ⟨rfl, B2.out⟩

set_option maxRecDepth 100000 in
set_option maxHeartbeats 4000000 in
theorem rtext_true (k : Nat) (n : Int) (b : Bool) (s : ByteArray) (w : World) (hs : s.size ≤ 140737488351232) (hv : ok ⟨k, n, b, s⟩ = true) (hk : k = 2) (hb : b = true) :
    Calls Tryd.prog 39 #[.agg #[.int .u8 k, .int .i64 n, .bool b, .string s]] w fun e w' => e = .returned (.string ⟨(trueL).toArray⟩) ∧ Below w.heap.size w w' := by
  subst hb
  have cC := refCheck_any k n true s (w.alloc (.cells #[.int .u8 k, .int .i64 n, .bool true, .string s] 23)) (by omega)
  rw [show okE ⟨k, n, true, s⟩ = 0 by simp [okE, hv]] at cC
  have t1 : ((k : Int) == 1) = false := by rw [hk]; rfl
  have t2 : ((k : Int) == 2) = true := by rw [hk]; rfl
  have t3 : ((k : Int) == 3) = false := by rw [hk]; rfl
  have hB := (Below.refl w.heap.size w).alloc (Nat.le_refl _) (.cells #[.int .u8 k, .int .i64 n, .bool true, .string s] 23)
  have hg := heap_alloc_new w (.cells #[.int .u8 k, .int .i64 n, .bool true, .string s] 23)
  have hz : w.heap.size < (w.alloc (.cells #[.int .u8 k, .int .i64 n, .bool true, .string s] 23)).heap.size := by simp
  have HB := hid hB
  have HG := hid hg
  clear hv hB hg hk hs
  go_enter Tryd.func39, Tryd.ntmps39
  go_wp2_with fail
  refine cC.mono ?_
  rintro e w1 ⟨rfl, b1⟩
  have hg := (b1.block w.heap.size hz).trans HG.out
  obtain ⟨x0, x1, x2, x3⟩ := row4 hg
  have B1 := hid (HB.out.trans (b1.mono HB.out.size))
  clear b1 hg HG cC
  go_wp2_with fail
  go_ret
  exact ⟨rfl, B1.out⟩

set_option maxRecDepth 100000 in
set_option maxHeartbeats 4000000 in
theorem rtext_false (k : Nat) (n : Int) (b : Bool) (s : ByteArray) (w : World) (hs : s.size ≤ 140737488351232) (hv : ok ⟨k, n, b, s⟩ = true) (hk : k = 2) (hb : b = false) :
    Calls Tryd.prog 39 #[.agg #[.int .u8 k, .int .i64 n, .bool b, .string s]] w fun e w' => e = .returned (.string ⟨(falseL).toArray⟩) ∧ Below w.heap.size w w' := by
  subst hb
  have cC := refCheck_any k n false s (w.alloc (.cells #[.int .u8 k, .int .i64 n, .bool false, .string s] 23)) (by omega)
  rw [show okE ⟨k, n, false, s⟩ = 0 by simp [okE, hv]] at cC
  have t1 : ((k : Int) == 1) = false := by rw [hk]; rfl
  have t2 : ((k : Int) == 2) = true := by rw [hk]; rfl
  have t3 : ((k : Int) == 3) = false := by rw [hk]; rfl
  have hB := (Below.refl w.heap.size w).alloc (Nat.le_refl _) (.cells #[.int .u8 k, .int .i64 n, .bool false, .string s] 23)
  have hg := heap_alloc_new w (.cells #[.int .u8 k, .int .i64 n, .bool false, .string s] 23)
  have hz : w.heap.size < (w.alloc (.cells #[.int .u8 k, .int .i64 n, .bool false, .string s] 23)).heap.size := by simp
  have HB := hid hB
  have HG := hid hg
  clear hv hB hg hk hs
  go_enter Tryd.func39, Tryd.ntmps39
  go_wp2_with fail
  refine cC.mono ?_
  rintro e w1 ⟨rfl, b1⟩
  have hg := (b1.block w.heap.size hz).trans HG.out
  obtain ⟨x0, x1, x2, x3⟩ := row4 hg
  have B1 := hid (HB.out.trans (b1.mono HB.out.size))
  clear b1 hg HG cC
  go_wp2_with fail
  go_ret
  exact ⟨rfl, B1.out⟩

set_option maxRecDepth 100000 in
set_option maxHeartbeats 4000000 in
theorem rtext_text (k : Nat) (n : Int) (b : Bool) (s : ByteArray) (w : World) (hs : s.size ≤ 140737488351232) (hv : ok ⟨k, n, b, s⟩ = true) (hk : k = 3) :
    Calls Tryd.prog 39 #[.agg #[.int .u8 k, .int .i64 n, .bool b, .string s]] w fun e w' => e = .returned (.string ⟨(W.quoteL s.data.toList).toArray⟩) ∧ Below w.heap.size w w' := by
  have hs2 := ok_size hv hk
  have cC := refCheck_any k n b s (w.alloc (.cells #[.int .u8 k, .int .i64 n, .bool b, .string s] 23)) (by omega)
  rw [show okE ⟨k, n, b, s⟩ = 0 by simp [okE, hv]] at cC
  have t1 : ((k : Int) == 1) = false := by rw [hk]; rfl
  have t2 : ((k : Int) == 2) = false := by rw [hk]; rfl
  have t3 : ((k : Int) == 3) = true := by rw [hk]; rfl
  have cN := fun X => refQuote_any s X (by simp only at hs2; omega)
  obtain ⟨r, hr⟩ : ∃ r, W.quoteL s.data.toList = r := ⟨_, rfl⟩
  rw [hr] at cN ⊢
  clear hr hs2
  have hB := (Below.refl w.heap.size w).alloc (Nat.le_refl _) (.cells #[.int .u8 k, .int .i64 n, .bool b, .string s] 23)
  have hg := heap_alloc_new w (.cells #[.int .u8 k, .int .i64 n, .bool b, .string s] 23)
  have hz : w.heap.size < (w.alloc (.cells #[.int .u8 k, .int .i64 n, .bool b, .string s] 23)).heap.size := by simp
  have HB := hid hB
  have HG := hid hg
  clear hv hB hg hk hs
  go_enter Tryd.func39, Tryd.ntmps39
  go_wp2_with fail
  refine cC.mono ?_
  rintro e w1 ⟨rfl, b1⟩
  have hg := (b1.block w.heap.size hz).trans HG.out
  obtain ⟨x0, x1, x2, x3⟩ := row4 hg
  have B1 := hid (HB.out.trans (b1.mono HB.out.size))
  clear b1 hg HG cC
  go_wp2_with fail
  refine (cN _).mono ?_
  rintro e w2 ⟨rfl, b2⟩
  have B2 := hid (B1.out.trans (b2.mono B1.out.size))
  clear b2 cN
  go_wp2_with fail
  go_ret
  exact ⟨rfl, B2.out⟩

theorem rtextV (v : Val) (w : World) (hs : v.s.size ≤ 140737488351232) (h0 : -9223372036854775808 ≤ v.n) (h1 : v.n ≤ 9223372036854775807) :
    Calls Tryd.prog 39 #[.agg #[.int .u8 v.k, .int .i64 v.n, .bool v.b, .string v.s]] w fun e w' => e = .returned (.string ⟨(textL v).toArray⟩) ∧ Below w.heap.size w w' := by
  obtain ⟨k, n, b, s⟩ := v
  unfold textL
  cases hv : ok ⟨k, n, b, s⟩
  · rw [if_pos rfl]; exact rtext_bad k n b s w hs hv
  · rw [if_neg (by simp)]
    rcases ok_kinds hv with hk | hk | hk
    · rw [if_pos hk]; exact rtext_int k n b s w hs h0 h1 hv hk
    · have hk' : k = 2 := hk
      rw [if_neg (show ¬ k = 1 by omega), if_pos hk']
      cases b
      · exact rtext_false k n false s w hs hv hk' rfl
      · exact rtext_true k n true s w hs hv hk' rfl
    · have hk' : k = 3 := hk
      rw [if_neg (show ¬ k = 1 by omega), if_neg (show ¬ k = 2 by omega)]; exact rtext_text k n b s w hs hv hk'
end Go.Proofs.YtohdifffdgoaaaaDoor
