/- key.Decode's item: a bad head, a number, a text. -/
import Derived.Test.YtfadnhihcobclaaDoorKDec1
namespace Go.Proofs.YtfadnhihcobclaaDoor
open Go.RowKit
open Go.Lib (hid)
open K
theorem xor_ones2 (y : Nat) (h : y < 18446744073709551616) : y ^^^ 18446744073709551615 = 18446744073709551615 - y := by
  have e := congrArg BitVec.toNat (BitVec.xor_allOnes (x := BitVec.ofNat 64 y))
  rw [BitVec.toNat_xor, BitVec.toNat_not, BitVec.toNat_ofNat, BitVec.toNat_allOnes] at e
  rw [Nat.mod_eq_of_lt h] at e
  exact e
theorem i64_xor_ones (a : Nat) (h : a < 9223372036854775808) : bits .xor .i64 (a : Int) (-1) = -(a : Int) - 1 := by
  have h1 : (BitVec.ofInt 64 (a : Int)).toNat = a := by
    rw [BitVec.ofInt_natCast, BitVec.toNat_ofNat]; exact Nat.mod_eq_of_lt (by omega)
  have h2 : (BitVec.ofInt 64 (-1)).toNat = 18446744073709551615 := by decide
  show IntKind.i64.wrap ((BitVec.ofInt 64 (a : Int) ^^^ BitVec.ofInt 64 (-1)).toNat : Int) = _
  rw [BitVec.toNat_xor, h1, h2, xor_ones2 a (by omega), IntKind.wrap_i64]
  omega
theorem i64_xor_zero (a : Nat) (h : a < 9223372036854775808) : bits .xor .i64 (a : Int) 0 = (a : Int) := by
  have h1 : (BitVec.ofInt 64 (a : Int)).toNat = a := by
    rw [BitVec.ofInt_natCast, BitVec.toNat_ofNat]; exact Nat.mod_eq_of_lt (by omega)
  have h2 : (BitVec.ofInt 64 0).toNat = 0 := by decide
  show IntKind.i64.wrap ((BitVec.ofInt 64 (a : Int) ^^^ BitVec.ofInt 64 0).toNat : Int) = _
  rw [BitVec.toNat_xor, h1, h2, Nat.xor_zero, IntKind.wrap_i64]
  omega
theorem and_one (n : Nat) (h : n < 18446744073709551616) : bits .and .u64 (n : Int) 1 = ((n % 2 : Nat) : Int) := by
  have := bits_and_u64_nat n 1 h (by omega)
  rw [Nat.and_one_is_mod] at this
  exact this
theorem itemOf_ok {R : Rd} {sb : Nat} {w W' : World} {k : Nat} {n n' : Int} {y : ByteArray} {m : Items} {mv : Value} {r : List UInt8} (hR : R = .ok (.one k n y m) r) (hn : n' = n) (hg : w.grownBy W' (some sb)) (hm : m.Lies W' (fun b => w.heap.size ≤ b ∧ b < W'.heap.size) mv) (ht : W'.heap[sb]? = some (strRow ⟨r.toArray⟩)) :
    ItemOf R sb w (.returned (.tuple #[.agg #[.int .u8 k, .int .i64 n', .string y, mv], .int .i64 0])) W' :=
  ⟨hg, Or.inr ⟨k, n, y, m, r, mv, hR, by rw [hn], hm, ht⟩⟩
set_option maxRecDepth 100000 in
set_option maxHeartbeats 4000000 in
theorem item_none (d sb ib : Nat) (s : ByteArray) (w : World) (h0 : 0 < s.size) (hsz : s.size ≤ 100000) (hu : uvar (s.data.toList.drop 1) = none) (hs : w.heap[sb]? = some (strRow s)) (hi : w.heap[ib]? = some (fnRow sb ib)) (hn : sb ≠ ib) :
    Calls Tryd.prog 44 #[.int .i64 d, .pointer (some ⟨sb, 0, none⟩), .pointer (some ⟨ib, 0, none⟩)] w (ItemOf (rd 1 d s.data.toList) sb w) := by
  have HR : Hid (rd 1 d s.data.toList = .bad 4) := by
    show _ = _
    have hd0 := drop_cons s 0 h0
    rw [List.drop_zero, Nat.zero_add] at hd0
    rw [rd_hd, hd0, hd, hu]
  have cU := fun X => uvarint_any (s.extract 1 s.size) X (by rw [extract_size]; omega)
  rw [extract_from s 1, hu] at cU
  simp only [uvV] at cU
  have hemp := emp_no (x := s) (by omega)
  have HD := hid (DS.start hs hi hn (.int .u8 0) (.int .i64 0) (.string ⟨#[]⟩) (.slice none 0 0))
  have c0 := cell_of_one hs
  have l0 := Go.lt_of_block hs
  clear hs hi hu
  go_enter Tryd.func44, Tryd.ntmps44
  go_wp2_with fail
  refine (cU _).mono ?_
  rintro e w1 ⟨rfl, bb⟩
  have HD1 := hid (HD.out.below bb)
  clear bb cU HD
  obtain ⟨f0, f1, f2, f3, f4, ⟨x, y, z, u, f5, f6, f7, f8⟩, f9, f10, f11, f12, f13⟩ := HD1.out.facts
  go_wp2_with fail
  obtain ⟨g1, g2, g3, _⟩ := HD1.out.done (.int .u8 0) (.int .i64 0) (.string ⟨#[]⟩) (.slice none 0 0)
  exact bodyPost_ret (v := .tuple #[.agg #[.int .u8 0, .int .i64 0, .string ⟨#[]⟩, .slice none 0 0], .int .i64 4]) (results_pair rfl _ _ w.heap.size 62 _ (0, 0) _ (.int .i64 4) rfl g3 (by rfl) Tryd.underlying62 rfl infoItemS) rfl (itemOf_bad HR.out g1 g2)
set_option maxRecDepth 100000 in
set_option maxHeartbeats 4000000 in
theorem item_kind (d sb ib : Nat) (s : ByteArray) (w : World) (h0 : 0 < s.size) (hsz : s.size ≤ 100000) {n : Nat} {r : List UInt8} (hu : uvar (s.data.toList.drop 1) = some (n, r)) (hk : s[0].toNat < 1 ∨ 3 < s[0].toNat) (hs : w.heap[sb]? = some (strRow s)) (hi : w.heap[ib]? = some (fnRow sb ib)) (hn : sb ≠ ib) :
    Calls Tryd.prog 44 #[.int .i64 d, .pointer (some ⟨sb, 0, none⟩), .pointer (some ⟨ib, 0, none⟩)] w (ItemOf (rd 1 d s.data.toList) sb w) := by
  have HR : Hid (rd 1 d s.data.toList = .bad 4) := by
    show _ = _
    have hd0 := drop_cons s 0 h0
    rw [List.drop_zero, Nat.zero_add] at hd0
    rw [rd_hd, hd0, hd, hu]
    simp only [hdK]
    rw [if_neg (by omega), if_neg (by omega), if_neg (by omega)]
  have cU := fun X => uvarint_any (s.extract 1 s.size) X (by rw [extract_size]; omega)
  rw [extract_from s 1, hu] at cU
  simp only [uvV] at cU
  have hemp := emp_no (x := s) (by omega)
  have HD := hid (DS.start hs hi hn (.int .u8 0) (.int .i64 0) (.string ⟨#[]⟩) (.slice none 0 0))
  have c0 := cell_of_one hs
  have l0 := Go.lt_of_block hs
  obtain ⟨k, hkx⟩ : ∃ k, s[0].toNat = k := ⟨_, rfl⟩
  rw [hkx] at hk
  clear hs hi hu
  rcases hk with hk | hk
  · have t0 : decide ((k : Int) < 1) = true := by simp; omega
    go_enter Tryd.func44, Tryd.ntmps44
    go_wp2_with fail
    refine (cU _).mono ?_
    rintro e w1 ⟨rfl, bb⟩
    have HD1 := hid (HD.out.below bb)
    clear bb cU HD
    obtain ⟨f0, f1, f2, f3, f4, ⟨x, y, z, u, f5, f6, f7, f8⟩, f9, f10, f11, f12, f13⟩ := HD1.out.facts
    go_wp2_with fail
    obtain ⟨g1, g2, g3, _⟩ := HD1.out.done (.int .u8 0) (.int .i64 0) (.string ⟨#[]⟩) (.slice none 0 0)
    exact bodyPost_ret (v := .tuple #[.agg #[.int .u8 0, .int .i64 0, .string ⟨#[]⟩, .slice none 0 0], .int .i64 4]) (results_pair rfl _ _ w.heap.size 62 _ (0, 0) _ (.int .i64 4) rfl g3 (by rfl) Tryd.underlying62 rfl infoItemS) rfl (itemOf_bad HR.out g1 g2)
  · have t0 : decide ((k : Int) < 1) = false := by simp; omega
    have t1 : decide ((3 : Int) < (k : Int)) = true := by simp; omega
    go_enter Tryd.func44, Tryd.ntmps44
    go_wp2_with fail
    refine (cU _).mono ?_
    rintro e w1 ⟨rfl, bb⟩
    have HD1 := hid (HD.out.below bb)
    clear bb cU HD
    obtain ⟨f0, f1, f2, f3, f4, ⟨x, y, z, u, f5, f6, f7, f8⟩, f9, f10, f11, f12, f13⟩ := HD1.out.facts
    go_wp2_with fail
    obtain ⟨g1, g2, g3, _⟩ := HD1.out.done (.int .u8 0) (.int .i64 0) (.string ⟨#[]⟩) (.slice none 0 0)
    exact bodyPost_ret (v := .tuple #[.agg #[.int .u8 0, .int .i64 0, .string ⟨#[]⟩, .slice none 0 0], .int .i64 4]) (results_pair rfl _ _ w.heap.size 62 _ (0, 0) _ (.int .i64 4) rfl g3 (by rfl) Tryd.underlying62 rfl infoItemS) rfl (itemOf_bad HR.out g1 g2)
set_option maxRecDepth 100000 in
set_option maxHeartbeats 4000000 in
theorem item_num (d sb ib : Nat) (s : ByteArray) (w : World) (h0 : 0 < s.size) (hsz : s.size ≤ 100000) {n : Nat} {r : List UInt8} (hu : uvar (s.data.toList.drop 1) = some (n, r)) (hk : s[0].toNat = 1) (hs : w.heap[sb]? = some (strRow s)) (hi : w.heap[ib]? = some (fnRow sb ib)) (hn : sb ≠ ib) :
    Calls Tryd.prog 44 #[.int .i64 d, .pointer (some ⟨sb, 0, none⟩), .pointer (some ⟨ib, 0, none⟩)] w (ItemOf (rd 1 d s.data.toList) sb w) := by
  have HR : Hid (rd 1 d s.data.toList = .ok (.one 1 (unzig n) ⟨#[]⟩ .nil) r) := by
    show _ = _
    have hd0 := drop_cons s 0 h0
    rw [List.drop_zero, Nat.zero_add] at hd0
    rw [rd_hd, hd0, hd, hu]
    simp only [hdK]
    rw [if_pos hk]
  obtain ⟨hu1, hu2⟩ := uvar_len hu
  have cU := fun X => uvarint_any (s.extract 1 s.size) X (by rw [extract_size]; omega)
  rw [extract_from s 1, hu] at cU
  simp only [uvV] at cU
  have hemp := emp_no (x := s) (by omega)
  have HD := hid (DS.start hs hi hn (.int .u8 0) (.int .i64 0) (.string ⟨#[]⟩) (.slice none 0 0))
  have c0 := cell_of_one hs
  have l0 := Go.lt_of_block hs
  obtain ⟨k, hkx⟩ : ∃ k, s[0].toNat = k := ⟨_, rfl⟩
  rw [hkx] at hk
  subst hk
  clear hs hi hu hu1
  have hh : ((n : Int) / 2) = ((n / 2 : Nat) : Int) := by omega
  obtain ⟨v, hv⟩ : ∃ v, n / 2 = v := ⟨_, rfl⟩
  have hv63 : v < 9223372036854775808 := by omega
  have hw0 : wrap64 0 = 0 := by unfold wrap64; omega
  have hw1 : wrap64 1 = 1 := by unfold wrap64; omega
  have hw2 : wrap64 (-1) = -1 := by unfold wrap64; omega
  have hand := and_one n hu2
  rw [hv] at hh
  by_cases h2 : n % 2 = 0
  · have HU : Hid ((v : Int) = unzig n) := by show _ = _; unfold unzig; rw [if_pos h2, hv]
    rw [h2] at hand
    have hxx := i64_xor_zero v hv63
    replace hand : bits .and .u64 (n : Int) 1 = 0 := hand
    clear h2 hv
    go_enter Tryd.func44, Tryd.ntmps44
    go_wp2_with fail
    refine (cU _).mono ?_
    rintro e w1 ⟨rfl, bb⟩
    have HD1 := hid (HD.out.below bb)
    clear bb cU HD
    obtain ⟨f0, f1, f2, f3, f4, ⟨x, y, z, u, f5, f6, f7, f8⟩, f9, f10, f11, f12, f13⟩ := HD1.out.facts
    go_upto_region 8 with fail
    have HD2 := hid (HD1.out.write ⟨r.toArray⟩)
    generalize World.setCell w1 _ _ = w2 at HD2 ⊢
    clear f0 f1 f2 f3 f4 f5 f6 f7 f8 f9 f10 f11 f12 f13 HD1
    obtain ⟨f0, f1, f2, f3, f4, ⟨x', y', z', u', f5, f6, f7, f8⟩, f9, f10, f11, f12, f13⟩ := HD2.out.facts
    go_wp2_with fail
    obtain ⟨g1, g2, g3, _⟩ := HD2.out.done (.int .u8 1) (.int .i64 v) (.string ⟨#[]⟩) (.slice none 0 0)
    exact bodyPost_ret (v := .tuple #[.agg #[.int .u8 1, .int .i64 v, .string ⟨#[]⟩, .slice none 0 0], .int .i64 0]) (results_pair rfl _ _ w.heap.size 62 _ (0, 0) _ (.int .i64 0) rfl g3 (by rfl) Tryd.underlying62 rfl infoItemS) rfl (itemOf_ok HR.out HU.out g1 (Or.inl ⟨rfl, rfl⟩) g2)
  · have HU : Hid (-(v : Int) - 1 = unzig n) := by show _ = _; unfold unzig; rw [if_neg h2, hv]
    rw [show n % 2 = 1 by omega] at hand
    have hxx := i64_xor_ones v hv63
    replace hand : bits .and .u64 (n : Int) 1 = 1 := hand
    clear h2 hv
    go_enter Tryd.func44, Tryd.ntmps44
    go_wp2_with fail
    refine (cU _).mono ?_
    rintro e w1 ⟨rfl, bb⟩
    have HD1 := hid (HD.out.below bb)
    clear bb cU HD
    obtain ⟨f0, f1, f2, f3, f4, ⟨x, y, z, u, f5, f6, f7, f8⟩, f9, f10, f11, f12, f13⟩ := HD1.out.facts
    go_upto_region 8 with fail
    have HD2 := hid (HD1.out.write ⟨r.toArray⟩)
    generalize World.setCell w1 _ _ = w2 at HD2 ⊢
    clear f0 f1 f2 f3 f4 f5 f6 f7 f8 f9 f10 f11 f12 f13 HD1
    obtain ⟨f0, f1, f2, f3, f4, ⟨x', y', z', u', f5, f6, f7, f8⟩, f9, f10, f11, f12, f13⟩ := HD2.out.facts
    go_wp2_with fail
    obtain ⟨g1, g2, g3, _⟩ := HD2.out.done (.int .u8 1) (.int .i64 (-(v : Int) - 1)) (.string ⟨#[]⟩) (.slice none 0 0)
    exact bodyPost_ret (v := .tuple #[.agg #[.int .u8 1, .int .i64 (-(v : Int) - 1), .string ⟨#[]⟩, .slice none 0 0], .int .i64 0]) (results_pair rfl _ _ w.heap.size 62 _ (0, 0) _ (.int .i64 0) rfl g3 (by rfl) Tryd.underlying62 rfl infoItemS) rfl (itemOf_ok HR.out HU.out g1 (Or.inl ⟨rfl, rfl⟩) g2)
theorem itemOf_ok2 {R : Rd} {sb : Nat} {w W' : World} {k : Nat} {n : Int} {y : ByteArray} {m : Items} {mv : Value} {r : List UInt8} {t : ByteArray} (hR : R = .ok (.one k n y m) r) (hg : w.grownBy W' (some sb)) (hm : m.Lies W' (fun b => w.heap.size ≤ b ∧ b < W'.heap.size) mv) (ht : W'.heap[sb]? = some (strRow t)) (hr : t.data.toList = r) :
    ItemOf R sb w (.returned (.tuple #[.agg #[.int .u8 k, .int .i64 n, .string y, mv], .int .i64 0])) W' :=
  ⟨hg, Or.inr ⟨k, n, y, m, r, mv, hR, rfl, hm, by rw [ht, ← hr]⟩⟩
set_option maxRecDepth 100000 in
set_option maxHeartbeats 4000000 in
theorem item_text (d sb ib : Nat) (s : ByteArray) (w : World) (h0 : 0 < s.size) (hsz : s.size ≤ 100000) {n : Nat} {r : List UInt8} (hu : uvar (s.data.toList.drop 1) = some (n, r)) (hk : s[0].toNat = 2) (hs : w.heap[sb]? = some (strRow s)) (hi : w.heap[ib]? = some (fnRow sb ib)) (hn : sb ≠ ib) :
    Calls Tryd.prog 44 #[.int .i64 d, .pointer (some ⟨sb, 0, none⟩), .pointer (some ⟨ib, 0, none⟩)] w (ItemOf (rd 1 d s.data.toList) sb w) := by
  have hR0 : rd 1 d s.data.toList = if r.length < n then .bad 4 else .ok (.one 2 0 ⟨(r.take n).toArray⟩ .nil) (r.drop n) := by
    have hd0 := drop_cons s 0 h0
    rw [List.drop_zero, Nat.zero_add] at hd0
    rw [rd_hd, hd0, hd, hu]
    simp only [hdK]
    rw [if_neg (by omega), if_pos hk]
    by_cases hc : r.length < n
    · rw [if_pos hc, if_pos hc]
    · rw [if_neg hc, if_neg hc]
  obtain ⟨hu1, hu2⟩ := uvar_len hu
  have hrl : r.length ≤ 100000 := by
    have : (s.data.toList.drop 1).length ≤ s.size := by rw [List.length_drop, Array.length_toList]; exact Nat.sub_le _ _
    omega
  have cU := fun X => uvarint_any (s.extract 1 s.size) X (by rw [extract_size]; omega)
  rw [extract_from s 1, hu] at cU
  simp only [uvV] at cU
  have hemp := emp_no (x := s) (by omega)
  have HD := hid (DS.start hs hi hn (.int .u8 0) (.int .i64 0) (.string ⟨#[]⟩) (.slice none 0 0))
  have c0 := cell_of_one hs
  have l0 := Go.lt_of_block hs
  obtain ⟨k, hkx⟩ : ∃ k, s[0].toNat = k := ⟨_, rfl⟩
  rw [hkx] at hk
  subst hk
  obtain ⟨t, ht⟩ : ∃ t : ByteArray, (⟨r.toArray⟩ : ByteArray) = t := ⟨_, rfl⟩
  have htl : t.data.toList = r := by rw [← ht]
  have hts : t.size = r.length := by rw [← htl, Array.length_toList]; rfl
  rw [ht] at cU
  rw [← hts] at hR0 hrl
  clear hs hi hu hu1 ht
  by_cases hc : t.size < n
  · have t0 : decide ((t.size : Int) < (n : Int)) = true := by simp; omega
    rw [if_pos hc] at hR0
    have HR := hid (p := _ = _) hR0
    clear hR0 hts
    go_enter Tryd.func44, Tryd.ntmps44
    go_wp2_with fail
    refine (cU _).mono ?_
    rintro e w1 ⟨rfl, bb⟩
    have HD1 := hid (HD.out.below bb)
    clear bb cU HD
    obtain ⟨f0, f1, f2, f3, f4, ⟨x, y, z, u, f5, f6, f7, f8⟩, f9, f10, f11, f12, f13⟩ := HD1.out.facts
    go_upto_region 8 with fail
    have HD2 := hid (HD1.out.write t)
    generalize World.setCell w1 _ _ = w2 at HD2 ⊢
    clear f0 f1 f2 f3 f4 f5 f6 f7 f8 f9 f10 f11 f12 f13 HD1
    obtain ⟨f0, f1, f2, f3, f4, ⟨x', y', z', u', f5, f6, f7, f8⟩, f9, f10, f11, f12, f13⟩ := HD2.out.facts
    go_wp2_with fail
    obtain ⟨g1, g2, g3, _⟩ := HD2.out.done (.int .u8 0) (.int .i64 0) (.string ⟨#[]⟩) (.slice none 0 0)
    exact bodyPost_ret (v := .tuple #[.agg #[.int .u8 0, .int .i64 0, .string ⟨#[]⟩, .slice none 0 0], .int .i64 4]) (results_pair rfl _ _ w.heap.size 62 _ (0, 0) _ (.int .i64 4) rfl g3 (by rfl) Tryd.underlying62 rfl infoItemS) rfl (itemOf_bad HR.out g1 g2)
  · have t0 : decide ((t.size : Int) < (n : Int)) = false := by simp; omega
    rw [if_neg hc] at hR0
    have hle : (n : Int) ≤ (t.size : Int) := by omega
    have hn0 : (0 : Int) ≤ (n : Int) := by omega
    have HX : Hid ((⟨(r.take n).toArray⟩ : ByteArray) = t.extract 0 n) := by
      show _ = _
      have e := extract_cut t 0 n
      rw [List.drop_zero, htl, Nat.sub_zero] at e
      rw [← e]
    have HY : Hid ((t.extract n t.size).data.toList = r.drop n) := by show _ = _; rw [extract_from, htl]
    have HR : Hid (rd 1 d s.data.toList = .ok (.one 2 0 (t.extract 0 n) .nil) (r.drop n)) := by show _ = _; rw [hR0, HX.out]
    clear hR0 hts HX htl
    go_enter Tryd.func44, Tryd.ntmps44
    go_wp2_with fail
    refine (cU _).mono ?_
    rintro e w1 ⟨rfl, bb⟩
    have HD1 := hid (HD.out.below bb)
    clear bb cU HD
    obtain ⟨f0, f1, f2, f3, f4, ⟨x, y, z, u, f5, f6, f7, f8⟩, f9, f10, f11, f12, f13⟩ := HD1.out.facts
    go_upto_region 8 with fail
    have HD2 := hid (HD1.out.write t)
    generalize World.setCell w1 _ _ = w2 at HD2 ⊢
    clear f0 f1 f2 f3 f4 f5 f6 f7 f8 f9 f10 f11 f12 f13 HD1
    obtain ⟨f0, f1, f2, f3, f4, ⟨x', y', z', u', f5, f6, f7, f8⟩, f9, f10, f11, f12, f13⟩ := HD2.out.facts
    go_upto_region 16 with fail
    have HD3 := hid ((HD2.out.write (t.extract n t.size)).alloc (.cells #[.int .u8 2, .int .i64 0, .string (t.extract 0 n), .slice none 0 0] 62))
    have HXB : Hid ((World.alloc (World.setCell w2 ⟨sb, 0, none⟩ (.string (t.extract n t.size))) (.cells #[.int .u8 2, .int .i64 0, .string (t.extract 0 n), .slice none 0 0] 62)).heap[w2.heap.size]? = some (.cells #[.int .u8 2, .int .i64 0, .string (t.extract 0 n), .slice none 0 0] 62 (0, 0))) := by
      show _ = _
      have := heap_alloc_new (World.setCell w2 ⟨sb, 0, none⟩ (.string (t.extract n t.size))) (.cells #[.int .u8 2, .int .i64 0, .string (t.extract 0 n), .slice none 0 0] 62)
      simpa using this
    generalize World.alloc (World.setCell _ _ _) _ = w3 at HD3 HXB ⊢
    obtain ⟨X, hX⟩ : ∃ X, w2.heap.size = X := ⟨_, rfl⟩
    rw [hX] at HXB ⊢
    clear f0 f1 f2 f3 f4 f5 f6 f7 f8 f9 f10 f11 f12 f13 HD2 hX
    obtain ⟨f0, f1, f2, f3, f4, ⟨x2, y2, z2, u2, f5, f6, f7, f8⟩, f9, f10, f11, f12, f13⟩ := HD3.out.facts
    obtain ⟨b0, b1, b2, b3⟩ := row4 HXB.out
    go_wp2_with fail
    obtain ⟨g1, g2, g3, _⟩ := HD3.out.done (.int .u8 2) (.int .i64 0) (.string (t.extract 0 n)) (.slice none 0 0)
    exact bodyPost_ret (v := .tuple #[.agg #[.int .u8 2, .int .i64 0, .string (t.extract 0 n), .slice none 0 0], .int .i64 0]) (results_pair rfl _ _ w.heap.size 62 _ (0, 0) _ (.int .i64 0) rfl g3 (by rfl) Tryd.underlying62 rfl infoItemS) rfl (itemOf_ok2 HR.out g1 (Or.inl ⟨rfl, rfl⟩) g2 HY.out)
end Go.Proofs.YtfadnhihcobclaaDoor
