/- Characters, blanks, comments, names, maps by text. -/
import Derived.Test.YteejphiklpnjhaaGreatDoorProg
import Derived.Test.YteejphiklpnjhaaGreatDoorWPlainB
import Derived.Test.YteejphiklpnjhaaGreatDoorWPlainA
import Derived.Test.YteejphiklpnjhaaGreatDoorShelf
import Derived.WalkKit
import Derived.WalkLawsBesides
import Derived.BigGuardPart
import Derived.Lib.Hide
import Derived.Laws.RangeAny
import Derived.Lib.TrimAscii
import Derived.Deep.DeepMust
import Derived.ProofKit
import Derived.BigQuiet
import Derived.Test.YteejphiklpnjhaaGreatDoorMJ2
import Derived.Deep.Cut
import Derived.Laws.Rows
import Derived.Maps.Own
import Derived.Maps.OwnOps
import Derived.Maps.OwnSet
import Derived.Maps.Views
import Derived.Carry
namespace Go.Proofs.YteejphiklpnjhaaGreatDoor
set_option maxRecDepth 100000
set_option maxHeartbeats 16000000
open Go.RowKit Go.Lib
namespace W
theorem ofNat_congr {a b : Nat} (h : a = b) : UInt8.ofNat a = UInt8.ofNat b := by rw [h]
theorem charL_1 (c : Int) (h0 : 0 ≤ c) (h1 : c ≤ 127) : charL c = [UInt8.ofNat c.toNat] := by
 unfold charL charN charB
 rw [if_pos (by simp [charOk]; omega), if_pos (by omega)]; rfl
theorem charL_2 (c : Int) (h0 : 128 ≤ c) (h1 : c ≤ 2047) : charL c = [UInt8.ofNat (192 + c / 64).toNat, UInt8.ofNat (128 + c % 64).toNat] := by
 unfold charL charN charB
 rw [if_pos (by simp [charOk]; omega), if_neg (by omega), if_pos (by omega)]
 simp only [List.map_cons, List.map_nil]
 rw [ofNat_congr (show 192 + c.toNat / 64 = (192 + c / 64).toNat by omega), ofNat_congr (show 128 + c.toNat % 64 = (128 + c % 64).toNat by omega)]
theorem charL_3 (c : Int) (h0 : 2048 ≤ c) (h1 : c ≤ 65535) (h : charOk c = true) : charL c = [UInt8.ofNat (224 + c / 4096).toNat, UInt8.ofNat (128 + c / 64 % 64).toNat, UInt8.ofNat (128 + c % 64).toNat] := by
 unfold charL charN charB
 rw [if_pos h, if_neg (by omega), if_neg (by omega), if_pos (by omega)]
 simp only [List.map_cons, List.map_nil]
 rw [ofNat_congr (show 224 + c.toNat / 4096 = (224 + c / 4096).toNat by omega), ofNat_congr (show 128 + c.toNat / 64 % 64 = (128 + c / 64 % 64).toNat by omega), ofNat_congr (show 128 + c.toNat % 64 = (128 + c % 64).toNat by omega)]
theorem charL_4 (c : Int) (h0 : 65536 ≤ c) (h1 : c ≤ 1114111) : charL c = [UInt8.ofNat (240 + c / 262144).toNat, UInt8.ofNat (128 + c / 4096 % 64).toNat, UInt8.ofNat (128 + c / 64 % 64).toNat, UInt8.ofNat (128 + c % 64).toNat] := by
 unfold charL charN charB
 rw [if_pos (by simp [charOk]; omega), if_neg (by omega), if_neg (by omega), if_neg (by omega)]
 simp only [List.map_cons, List.map_nil]
 rw [ofNat_congr (show 240 + c.toNat / 262144 = (240 + c / 262144).toNat by omega), ofNat_congr (show 128 + c.toNat / 4096 % 64 = (128 + c / 4096 % 64).toNat by omega), ofNat_congr (show 128 + c.toNat / 64 % 64 = (128 + c / 64 % 64).toNat by omega), ofNat_congr (show 128 + c.toNat % 64 = (128 + c % 64).toNat by omega)]
end W
end Go.Proofs.YteejphiklpnjhaaGreatDoor
namespace Go.Proofs.YteejphiklpnjhaaGreatDoor
set_option maxRecDepth 100000
set_option maxHeartbeats 16000000
open Go.RowKit
open Go.Lib (hid)
theorem validRune_ok (c : Int) : Lib.validRune c = W.charOk c := by
 unfold Lib.validRune W.charOk
 rw [Bool.eq_iff_iff]
 simp only [Bool.or_eq_true, decide_eq_true_eq]
 omega
theorem encode_charL (c : Int) (hok : W.charOk c = true) : Utf8.encode c = ⟨(W.charL c).toArray⟩ := by
 have h0 : 0 ≤ c := by
  simp only [W.charOk, Bool.or_eq_true, decide_eq_true_eq] at hok
  omega
 obtain ⟨n, rfl⟩ := Int.eq_ofNat_of_zero_le h0
 have e : W.charL (n : Int) = (Utf8.encode (n : Int)).data.toList := by
  unfold W.charL
  rw [if_pos hok, Int.toNat_natCast]
  exact (W.charN_encode n hok).symm
 obtain ⟨b, hb⟩ : ∃ b, Utf8.encode (n : Int) = b := ⟨_, rfl⟩
 rw [hb] at e ⊢
 obtain ⟨l, hl⟩ : ∃ l, W.charL (n : Int) = l := ⟨_, rfl⟩
 rw [hl] at e ⊢
 subst e
 exact ByteArray.ext (by simp)
namespace W
theorem extract_eq (s : ByteArray) (n k : Nat) : s.extract n (n + k) = ⟨((s.data.toList.drop n).take k).toArray⟩ := by
 have := ByteArray.extract_mk s.data.toList n (n + k)
 rw [show (⟨s.data.toList.toArray⟩ : ByteArray) = s from rfl, show n + k - n = k by omega] at this
 exact this
theorem decodeGo_drop (s : ByteArray) (n : Nat) (h : n < s.size) : Lib.decodeGo (s.extract n s.size) = Lib.decodeL (s.data.toList.drop n) := by
 have e : s.extract n s.size = ⟨(s.data.toList.drop n).toArray⟩ := by
  have := W.extract_eq s n (s.size - n)
  rw [show n + (s.size - n) = s.size by omega] at this
  rw [this, List.take_of_length_le (by simp)]
 unfold Lib.decodeGo Lib.decodeL
 rw [if_neg (by rw [ByteArray.size_extract]; omega), e]
end W
theorem enc_last {r : Int} (h : 128 ≤ r) (hok : W.charOk r = true) : ∃ (b : ByteArray) (l : Nat) (hl : l < b.size), Utf8.encode r = b ∧ b.size = l + 1 ∧ 1 ≤ l ∧ l ≤ 3 ∧ 128 ≤ (b[l]'hl).toNat := by
 rw [encode_charL r hok]
 have hm : 128 ≤ (UInt8.ofNat (128 + r % 64).toNat).toNat := by
   have h1 : (128 + r % 64).toNat < 256 := by omega
   rw [UInt8.toNat_ofNat_of_lt' h1]; omega
 by_cases h2 : r ≤ 2047
 · rw [W.charL_2 r h h2]
   exact ⟨_, 1, by show 1 < 2; omega, rfl, rfl, by omega, by omega, hm⟩
 · by_cases h3 : r ≤ 65535
   · rw [W.charL_3 r (by omega) h3 hok]
     exact ⟨_, 2, by show 2 < 3; omega, rfl, rfl, by omega, by omega, hm⟩
   · have h4 : r ≤ 1114111 := by simp only [W.charOk, Bool.or_eq_true, decide_eq_true_eq] at hok; omega
     rw [W.charL_4 r (by omega) h4]
     exact ⟨_, 3, by show 3 < 4; omega, rfl, rfl, by omega, by omega, hm⟩
end Go.Proofs.YteejphiklpnjhaaGreatDoor
namespace Go.Proofs.YteejphiklpnjhaaGreatDoor
set_option maxRecDepth 100000
set_option maxHeartbeats 16000000
open Go.RowKit
theorem quiet_lit {P : Program} {C : World → Prop} {id : Nat} {Q : Exit → Act → World → Prop} {a : Act} {w : World} {l : List Oper} (hm : P.follows .mixedOrders = true) (hB : Region.lexB .any l.toArray = true) (hC : C w.drew)
  (h : wpQuiet P l.toArray C (fun a' => ∀ w', C w' → Q .normal a' w') l a) : (Code.region id l.toArray true).wp P Q a w :=
 wp_region_quiet (C := C) hm hB hC (by simpa using h)
theorem quiet_val {P : Program} {C : World → Prop} {o : Oper} {a : Act} {K : Act → Prop} {x : Value} (h : ∀ v, C v → (execOp a.eval o).run P v = .ok (.value x) v) (k : K (a.put o.dst x)) : o.quiet P a C K :=
 ⟨x, fun v hC => by unfold Oper.quietAt; rw [h v hC]; exact ⟨rfl, rfl⟩, k⟩
theorem quiet_call {P : Program} {C : World → Prop} {o : Oper} {a : Act} {K : Act → Prop} {x : Value} {f : FuncId} {args : Array Value} (h : ∀ v, C v → (execOp a.eval o).run P v = .ok (.enter f args) v)
  (c : ∀ v, C v → Calls P f args v fun e w'' => e = .returned x ∧ C w'') (k : K (a.put o.dst x)) : o.quiet P a C K :=
 ⟨x, fun v hC => by unfold Oper.quietAt; rw [h v hC]; exact ⟨rfl, c v hC⟩, k⟩
end Go.Proofs.YteejphiklpnjhaaGreatDoor
namespace Go.Proofs.YteejphiklpnjhaaGreatDoor
set_option maxRecDepth 100000
set_option maxHeartbeats 16000000
open Go.RowKit
open Go.Lib (hid)
theorem X.trim_skip (l : List UInt8) : Lib.trimLeftS l [32, 9, 13, 10] = X.skip l := by
 unfold Lib.trimLeftS X.skip
 congr 1
 funext c
 rw [Bool.eq_iff_iff]
 simp only [X.blank, List.contains_cons, List.contains_nil, Bool.or_eq_true, beq_iff_eq, Bool.or_false, or_assoc]
theorem rest_suf {s : ByteArray} {p : Nat} {r : List UInt8} (h : X.Suf r (rest s p)) : r = rest s (s.size - r.length) := by
 have h1 := h.eq_drop
 have h2 := h.len
 rw [rest_len] at h1 h2
 by_cases hp : p ≤ s.size
 · rw [rest_drop] at h1
   rw [show s.size - r.length = p + (s.size - p - r.length) by omega]; exact h1
 · have : r = [] := List.eq_nil_of_length_eq_zero (by omega)
   subst this
   exact ((rest_nil s _).2 (by simp)).symm
theorem rest_pos {s : ByteArray} {p : Nat} {r : List UInt8} (h : X.Suf r (rest s p)) (hp : p ≤ s.size) : p ≤ s.size - r.length ∧ s.size - r.length ≤ s.size := by
 have h2 := h.len
 rw [rest_len] at h2
 omega
theorem trim_at (s : ByteArray) (p : Nat) : ∃ t : ByteArray, t.size = (X.skip (rest s p)).length ∧ ∀ U, Calls Tryz.prog 50 #[.string (s.extract p s.size), .string ⟨#[32, 9, 13, 10]⟩] U fun e w' => e = .returned (.string t) ∧ Below U.heap.size U w' := by
 refine ⟨⟨(X.skip (rest s p)).toArray⟩, by show (X.skip (rest s p)).toArray.size = _; simp, fun U => ?_⟩
 have h := Tryz.strings_TrimLeft_set (s.extract p s.size) ⟨#[32, 9, 13, 10]⟩ U (by decide) (by
  intro j b hj
  have : (⟨#[32, 9, 13, 10]⟩ : ByteArray).data.toList = [32, 9, 13, 10] := rfl
  rw [this] at hj
  have hm := List.mem_of_getElem? hj
  simp only [List.mem_cons, List.not_mem_nil, or_false] at hm
  rcases hm with rfl | rfl | rfl | rfl <;> decide)
 rw [ext_rest, show (⟨#[32, 9, 13, 10]⟩ : ByteArray).data.toList = [32, 9, 13, 10] from rfl, X.trim_skip] at h
 exact h
theorem blanks_any {R p c : Nat} {s : ByteArray} {W : World} (h : Rd W R s p c W) (hp : p ≤ s.size) (hs : s.size ≤ 1000000000000) :
  Calls Tryz.prog 32 #[.pointer (some ⟨R, 0, none⟩)] W fun en W' => en = .returned (.bool (decide (p < s.size - (X.skip (rest s p)).length))) ∧ Rd W R s (s.size - (X.skip (rest s p)).length) c W' := by
 obtain ⟨t, ht, cT⟩ := trim_at s p
 have hq := rest_pos (X.Suf.skip (rest s p)) hp
 have hsk := (X.Suf.skip (rest s p)).len
 rw [rest_len] at hsk
 obtain ⟨q, hqe⟩ : ∃ q, s.size - (X.skip (rest s p)).length = q := ⟨_, rfl⟩
 have e1 : (s.size : Int) - (t.size : Int) = (q : Int) := by omega
 rw [hqe] at hq ⊢
 have e2 : IntKind.i64.wrap (q : Int) = (q : Int) := by rw [IntKind.wrap_i64]; omega
 have P0 : (0 : Int) ≤ (p : Int) := by omega
 have P1 : (p : Int) ≤ (s.size : Int) := by omega
 have HT := hid cT
 have HR := hid h
 obtain ⟨c0, c1, -⟩ := h.cells
 clear cT h ht hqe hsk hq
 go_enter Tryz.func32, Tryz.ntmps32
 go_wp2_with fail
 go_region_with (go_at_call 50; refine (HT.out _).mono ?_; rintro en w1 ⟨rfl, bb⟩; (have H1 := hid (HR.out.drew.below bb)); (obtain ⟨d0, d1, -⟩ := H1.out.cells); (have g1 := H1.out.free 1); clear bb)
 all_goals
  clear c0 c1
  go_wp2_with fail
  go_ret
  exact ⟨rfl, H1.out.set1 q⟩
theorem stands_any (c : Int) (W : World) : Calls Tryz.prog 79 #[.int .i32 c] W fun en W' => en = .returned (.bool (X.stands c)) ∧ W' = W := by
 have hcl : (c = 9) ∨ (c = 10) ∨ (c = 13) ∨ (c < 32 ∧ c ≠ 9 ∧ c ≠ 10 ∧ c ≠ 13) ∨ (32 ≤ c ∧ c ≤ 55295) ∨ (55296 ≤ c ∧ c ≤ 57343) ∨ (57344 ≤ c ∧ c ≤ 65533) ∨ (65534 ≤ c ∧ c ≤ 65535) ∨ (65536 ≤ c ∧ c ≤ 1114111) ∨ (1114112 ≤ c) := by omega
 rcases hcl with h | h | h | h | h | h | h | h | h | h
 · rw [show X.stands c = true by unfold X.stands; subst h; rfl]
   subst h
   go_enter Tryz.func79, Tryz.ntmps79
   go_wp2
   go_ret
   exact ⟨rfl, rfl⟩
 · rw [show X.stands c = true by unfold X.stands; subst h; rfl]
   subst h
   go_enter Tryz.func79, Tryz.ntmps79
   go_wp2
   go_ret
   exact ⟨rfl, rfl⟩
 · rw [show X.stands c = true by unfold X.stands; subst h; rfl]
   subst h
   go_enter Tryz.func79, Tryz.ntmps79
   go_wp2
   go_ret
   exact ⟨rfl, rfl⟩
 · rw [show X.stands c = false by unfold X.stands; simp; omega]
   have q9 : (c == 9) = false := beq_eq_false_iff_ne.2 (by omega)
   have q10 : (c == 10) = false := beq_eq_false_iff_ne.2 (by omega)
   have q13 : (c == 13) = false := beq_eq_false_iff_ne.2 (by omega)
   have ta : decide (c < 32) = true := decide_eq_true (by omega)
   have tb : decide ((1114111 : Int) < c) = false := decide_eq_false (by omega)
   have td : decide (c ≤ 55295) = true := decide_eq_true (by omega)
   have te : decide ((57344 : Int) ≤ c) = false := decide_eq_false (by omega)
   have tf : decide (c ≤ 65533) = true := decide_eq_true (by omega)
   have tg : decide ((65536 : Int) ≤ c) = false := decide_eq_false (by omega)
   clear h
   go_enter Tryz.func79, Tryz.ntmps79
   go_wp2
   go_ret
   exact ⟨rfl, rfl⟩
 · rw [show X.stands c = true by unfold X.stands; simp; omega]
   have q9 : (c == 9) = false := beq_eq_false_iff_ne.2 (by omega)
   have q10 : (c == 10) = false := beq_eq_false_iff_ne.2 (by omega)
   have q13 : (c == 13) = false := beq_eq_false_iff_ne.2 (by omega)
   have ta : decide (c < 32) = false := decide_eq_false (by omega)
   have tb : decide ((1114111 : Int) < c) = false := decide_eq_false (by omega)
   have td : decide (c ≤ 55295) = true := decide_eq_true (by omega)
   have te : decide ((57344 : Int) ≤ c) = false := decide_eq_false (by omega)
   have tf : decide (c ≤ 65533) = true := decide_eq_true (by omega)
   have tg : decide ((65536 : Int) ≤ c) = false := decide_eq_false (by omega)
   clear h
   go_enter Tryz.func79, Tryz.ntmps79
   go_wp2
   go_ret
   exact ⟨rfl, rfl⟩
 · rw [show X.stands c = false by unfold X.stands; simp; omega]
   have q9 : (c == 9) = false := beq_eq_false_iff_ne.2 (by omega)
   have q10 : (c == 10) = false := beq_eq_false_iff_ne.2 (by omega)
   have q13 : (c == 13) = false := beq_eq_false_iff_ne.2 (by omega)
   have ta : decide (c < 32) = false := decide_eq_false (by omega)
   have tb : decide ((1114111 : Int) < c) = false := decide_eq_false (by omega)
   have td : decide (c ≤ 55295) = false := decide_eq_false (by omega)
   have te : decide ((57344 : Int) ≤ c) = false := decide_eq_false (by omega)
   have tf : decide (c ≤ 65533) = true := decide_eq_true (by omega)
   have tg : decide ((65536 : Int) ≤ c) = false := decide_eq_false (by omega)
   clear h
   go_enter Tryz.func79, Tryz.ntmps79
   go_wp2
   go_ret
   exact ⟨rfl, rfl⟩
 · rw [show X.stands c = true by unfold X.stands; simp; omega]
   have q9 : (c == 9) = false := beq_eq_false_iff_ne.2 (by omega)
   have q10 : (c == 10) = false := beq_eq_false_iff_ne.2 (by omega)
   have q13 : (c == 13) = false := beq_eq_false_iff_ne.2 (by omega)
   have ta : decide (c < 32) = false := decide_eq_false (by omega)
   have tb : decide ((1114111 : Int) < c) = false := decide_eq_false (by omega)
   have td : decide (c ≤ 55295) = false := decide_eq_false (by omega)
   have te : decide ((57344 : Int) ≤ c) = true := decide_eq_true (by omega)
   have tf : decide (c ≤ 65533) = true := decide_eq_true (by omega)
   have tg : decide ((65536 : Int) ≤ c) = false := decide_eq_false (by omega)
   clear h
   go_enter Tryz.func79, Tryz.ntmps79
   go_wp2
   go_ret
   exact ⟨rfl, rfl⟩
 · rw [show X.stands c = false by unfold X.stands; simp; omega]
   have q9 : (c == 9) = false := beq_eq_false_iff_ne.2 (by omega)
   have q10 : (c == 10) = false := beq_eq_false_iff_ne.2 (by omega)
   have q13 : (c == 13) = false := beq_eq_false_iff_ne.2 (by omega)
   have ta : decide (c < 32) = false := decide_eq_false (by omega)
   have tb : decide ((1114111 : Int) < c) = false := decide_eq_false (by omega)
   have td : decide (c ≤ 55295) = false := decide_eq_false (by omega)
   have te : decide ((57344 : Int) ≤ c) = true := decide_eq_true (by omega)
   have tf : decide (c ≤ 65533) = false := decide_eq_false (by omega)
   have tg : decide ((65536 : Int) ≤ c) = false := decide_eq_false (by omega)
   clear h
   go_enter Tryz.func79, Tryz.ntmps79
   go_wp2
   go_ret
   exact ⟨rfl, rfl⟩
 · rw [show X.stands c = true by unfold X.stands; simp; omega]
   have q9 : (c == 9) = false := beq_eq_false_iff_ne.2 (by omega)
   have q10 : (c == 10) = false := beq_eq_false_iff_ne.2 (by omega)
   have q13 : (c == 13) = false := beq_eq_false_iff_ne.2 (by omega)
   have ta : decide (c < 32) = false := decide_eq_false (by omega)
   have tb : decide ((1114111 : Int) < c) = false := decide_eq_false (by omega)
   have td : decide (c ≤ 55295) = false := decide_eq_false (by omega)
   have te : decide ((57344 : Int) ≤ c) = true := decide_eq_true (by omega)
   have tf : decide (c ≤ 65533) = false := decide_eq_false (by omega)
   have tg : decide ((65536 : Int) ≤ c) = true := decide_eq_true (by omega)
   clear h
   go_enter Tryz.func79, Tryz.ntmps79
   go_wp2
   go_ret
   exact ⟨rfl, rfl⟩
 · rw [show X.stands c = false by unfold X.stands; simp; omega]
   have q9 : (c == 9) = false := beq_eq_false_iff_ne.2 (by omega)
   have q10 : (c == 10) = false := beq_eq_false_iff_ne.2 (by omega)
   have q13 : (c == 13) = false := beq_eq_false_iff_ne.2 (by omega)
   have ta : decide (c < 32) = false := decide_eq_false (by omega)
   have tb : decide ((1114111 : Int) < c) = true := decide_eq_true (by omega)
   have td : decide (c ≤ 55295) = false := decide_eq_false (by omega)
   have te : decide ((57344 : Int) ≤ c) = true := decide_eq_true (by omega)
   have tf : decide (c ≤ 65533) = false := decide_eq_false (by omega)
   have tg : decide ((65536 : Int) ≤ c) = true := decide_eq_true (by omega)
   clear h
   go_enter Tryz.func79, Tryz.ntmps79
   go_wp2
   go_ret
   exact ⟨rfl, rfl⟩
theorem decode_rest {s : ByteArray} {p : Nat} (hp : p < s.size) : Lib.decodeGo (s.extract p s.size) = Lib.decodeL (rest s p) := W.decodeGo_drop s p hp
theorem decode_end {s : ByteArray} : Lib.decodeGo (s.extract s.size s.size) = (65533, 0) := by
 unfold Lib.decodeGo
 rw [if_pos (by simp)]
theorem char_any {R p c B : Nat} {s : ByteArray} {W : World} (h : Rd W R s p c W) (hp : p ≤ s.size) (hs : s.size ≤ 1000000000000) (hG : Ground B W) :
   Calls Tryz.prog 51 #[.pointer (some ⟨R, 0, none⟩)] W (Ends W R s c (X.char (rest s p)) (fun x => .int .i32 x)) := by
 have P0 : (0 : Int) ≤ (p : Int) := by omega
 have P1 : (p : Int) ≤ (s.size : Int) := by omega
 have HR := hid h
 have cD := fun U (hU : Tabs U) => Tryz.utf8_DecodeRuneInString (s.extract p s.size) U hU
 have cB := fun U (hU : Rd U R s p c U) => bad_any hU hp
 obtain ⟨c0, c1, -⟩ := h.cells
 have HT : Hid (Tabs W) := hG.now
 have HTD : Hid (Tabs W.drew) := hG.now
 have fin : ∀ {W' W'' : World} {en : Ending}, X.char (rest s p) = .error (X.bad (rest s p)) → Rd W R s p c W' → Below W'.heap.size W' W'' → Ends W R s c (X.char (rest s p)) (fun x => .int .i32 x) (.panicked (chain (X.bad (rest s p)).2 ((s.size - (X.bad (rest s p)).1 : Nat) : Int))) W'' := fun h1 h2 h3 => Or.inr ⟨_, _, h1, rfl, (h2.below h3).g⟩
 by_cases hps : p = s.size
 · have hd : Lib.decodeGo (s.extract p s.size) = (65533, 0) := by rw [hps]; exact decode_end
   rw [hd] at cD
   replace cD : ∀ U, Tabs U → Calls Tryz.prog 78 #[.string (s.extract p s.size)] U fun e w' => e = .returned (.tuple #[.int .i32 65533, .int .i64 0]) ∧ Below U.heap.size U w' := cD
   have HX : Hid (X.char (rest s p) = .error (X.bad (rest s p))) := by
     show _ = _
     have := (rest_nil s p).2 (by omega)
     rw [this]; rfl
   have HD := hid cD
   have HB := hid cB
   have HF := hid (fun W' W'' en => @fin W' W'' en)
   clear h cD cB fin hG hp hd hps
   go_enter Tryz.func51, Tryz.ntmps51
   go_wp2_with fail
   refine quiet_lit (C := (fun w1 => Rd W R s p c w1 ∧ Tabs w1)) (by kernel_rfl) (by kernel_rfl) (⟨HR.out.drew, HTD.out⟩) ?_
   repeat (first
     | go_big_quiet_skip
     | (go_big_quiet_want
        refine quiet_val (x := ?_) (fun vv hC => ?_) ?_
        rotate_left
        · skip
          obtain ⟨c0, c1, -⟩ := hC.1.cells
          clear hC
          go_simp
          with_reducible rfl
        go_big_quiet_on
        try simp only [Act.put, List.setIfInBounds_toArray, List.set_cons_zero, List.set_cons_succ])
     | (go_big_quiet_want
        refine quiet_call (f := ?_) (args := ?_) (x := ?_) (fun vv hC => ?_) (fun vv hC => ?_) ?_
        rotate_left 3
        · go_simp
          first | with_reducible rfl | (apply And.intro <;> with_reducible rfl)
        · first
            | (go_at_call 78; with_reducible refine (HD.out _ hC.2).mono ?_; rintro e ww ⟨rfl, bb⟩; refine And.intro ?_ (⟨hC.1.below bb, hC.2.under bb⟩); with_reducible rfl)
        go_big_quiet_on
        try simp only [Act.put, List.setIfInBounds_toArray, List.set_cons_zero, List.set_cons_succ]))
   refine wpQuiet_nil ?_
   intro vq hq
   have H2 := hid hq.1
   clear c0 c1 hq
   go_wp2_with fail
   refine (HB.out _ H2.out.own).mono ?_
   rintro e w2 ⟨rfl, hbl⟩
   exact ⟨rfl, HF.out _ _ (.returned (.tuple #[])) HX.out H2.out hbl⟩
 · have hlt : p < s.size := by omega
   rw [decode_rest hlt] at cD
   have hne : rest s p ≠ [] := fun e => by rw [rest_nil] at e; omega
   have hw := Lib.decodeL_width (rest s p)
   have hle := Lib.decodeL_le (rest s p) hne
   have hru := Lib.decodeL_rune (rest s p)
   rw [rest_len] at hle
   have HX : Hid (X.char (rest s p) = if ((Lib.decodeL (rest s p)).1 = 65533 ∧ (Lib.decodeL (rest s p)).2 = 1) ∨ X.stands (Lib.decodeL (rest s p)).1 = false then .error (X.bad (rest s p)) else .ok (((Lib.decodeL (rest s p)).1 : Int), (rest s p).drop (Lib.decodeL (rest s p)).2)) := by
     show _ = _
     unfold X.char X.bad
     rw [if_neg hne, if_neg hne]
   obtain ⟨r, hr⟩ : ∃ r, (Lib.decodeL (rest s p)).1 = r := ⟨_, rfl⟩
   obtain ⟨k, hk⟩ : ∃ k, (Lib.decodeL (rest s p)).2 = k := ⟨_, rfl⟩
   rw [hr] at cD HX hru
   rw [hk] at cD HX hw hle
   clear hr hk hne
   have HD := hid cD
   have HB := hid cB
   have HF := hid (fun W' W'' en => @fin W' W'' en)
   have cS := fun U => stands_any (r : Int) U
   have k0 : ((k : Int) == 0) = false := beq_eq_false_iff_ne.2 (by omega)
   clear h cD cB fin hG
   go_enter Tryz.func51, Tryz.ntmps51
   go_wp2_with fail
   refine quiet_lit (C := (fun w1 => Rd W R s p c w1 ∧ Tabs w1)) (by kernel_rfl) (by kernel_rfl) (⟨HR.out.drew, HTD.out⟩) ?_
   repeat (first
     | go_big_quiet_skip
     | (go_big_quiet_want
        refine quiet_val (x := ?_) (fun vv hC => ?_) ?_
        rotate_left
        · skip
          obtain ⟨c0, c1, -⟩ := hC.1.cells
          clear hC
          go_simp
          with_reducible rfl
        go_big_quiet_on
        try simp only [Act.put, List.setIfInBounds_toArray, List.set_cons_zero, List.set_cons_succ])
     | (go_big_quiet_want
        refine quiet_call (f := ?_) (args := ?_) (x := ?_) (fun vv hC => ?_) (fun vv hC => ?_) ?_
        rotate_left 3
        · go_simp
          first | with_reducible rfl | (apply And.intro <;> with_reducible rfl)
        · first
            | (go_at_call 78; with_reducible refine (HD.out _ hC.2).mono ?_; rintro e ww ⟨rfl, bb⟩; refine And.intro ?_ (⟨hC.1.below bb, hC.2.under bb⟩); with_reducible rfl)
        go_big_quiet_on
        try simp only [Act.put, List.setIfInBounds_toArray, List.set_cons_zero, List.set_cons_succ]))
   refine wpQuiet_nil ?_
   intro vq hq
   have H1 := hid hq.1
   clear c0 c1 hq HD HTD HT HR
   have hcase : (((r : Int) == 65533) = true ∧ ((k : Int) == 1) = true) ∨ ((((r : Int) == 65533) = false ∨ (((r : Int) == 65533) = true ∧ ((k : Int) == 1) = false)) ∧ X.stands r = false) ∨ ((((r : Int) == 65533) = false ∨ (((r : Int) == 65533) = true ∧ ((k : Int) == 1) = false)) ∧ X.stands r = true) := by
     cases (r : Int) == 65533 <;> cases (k : Int) == 1 <;> cases X.stands r <;> simp
   rcases hcase with ⟨g1, g2⟩ | ⟨gc, g3⟩ | ⟨gc, g3⟩
   · have HE : Hid (X.char (rest s p) = .error (X.bad (rest s p))) := by
       show _ = _
       rw [HX.out, if_pos]
       left; simp only [beq_iff_eq] at g1 g2; omega
     clear HX cS
     go_wp2_with fail
     refine (HB.out _ H1.out.own).mono ?_
     rintro e w2 ⟨rfl, hbl⟩
     exact ⟨rfl, HF.out _ _ (.returned (.tuple #[])) HE.out H1.out hbl⟩
   · have HE : Hid (X.char (rest s p) = .error (X.bad (rest s p))) := by
       show _ = _
       rw [HX.out, if_pos]
       right; exact g3
     rw [g3] at cS
     clear HX g3
     rcases gc with g1 | ⟨g1, g2⟩
     all_goals
       go_wp2_with fail
       refine (cS _).mono ?_
       rintro e w2 ⟨rfl, rfl⟩
       go_wp2_with fail
       refine (HB.out _ H1.out.own).mono ?_
       rintro e w2 ⟨rfl, hbl⟩
       exact ⟨rfl, HF.out _ _ (.returned (.tuple #[])) HE.out H1.out hbl⟩
   · have HY0 : X.char (rest s p) = .ok ((r : Int), rest s (p + k)) := by
       rw [HX.out, if_neg, rest_drop]
       rintro (⟨h4, h5⟩ | h4)
       · rcases gc with g1 | ⟨g1, g2⟩
         · have := beq_eq_false_iff_ne.1 g1; omega
         · have := beq_eq_false_iff_ne.1 g2; omega
       · rw [g3] at h4; cases h4
     have HY := hid HY0
     rw [g3] at cS
     clear HY0 HX g3
     obtain ⟨q, hq⟩ : ∃ q, p + k = q := ⟨_, rfl⟩
     rw [hq] at HY
     have e1 : (p : Int) + (k : Int) = (q : Int) := by omega
     have e2 : IntKind.i64.wrap (q : Int) = (q : Int) := by rw [IntKind.wrap_i64]; omega
     have HQ : Hid (s.size - (rest s q).length = q) := by show _ = _; rw [rest_len]; omega
     obtain ⟨c0, c1, -⟩ := H1.out.cells
     have f1 := H1.out.free 1
     clear hq
     rcases gc with g1 | ⟨g1, g2⟩
     all_goals
       go_wp2_with fail
       refine (cS _).mono ?_
       rintro e w2 ⟨rfl, rfl⟩
       go_wp2_with fail
       go_ret
       exact Or.inl ⟨_, _, HY.out, rfl, by rw [HQ.out]; exact H1.out.set1 q⟩
end Go.Proofs.YteejphiklpnjhaaGreatDoor
namespace Go.Proofs.YteejphiklpnjhaaGreatDoor
set_option maxRecDepth 100000
set_option maxHeartbeats 16000000
open Go.RowKit
open Go.Lib (hid)
def posOf (W : World) (R : Nat) : Nat := match W.cell? ⟨R, 1, none⟩ with | some (.int _ v) => v.toNat | _ => 0
theorem Rd.pos {w W : World} {R p c : Nat} {s : ByteArray} (h : Rd w R s p c W) : posOf W R = p := by unfold posOf; rw [h.cells.2.1]; simp
theorem X.skip_skip (l : List UInt8) : X.skip (X.skip l) = X.skip l := by
 unfold X.skip
 induction l with
 | nil => rfl
 | cons c r ih =>
   rw [List.dropWhile_cons]
   split
   · exact ih
   · rename_i h; rw [List.dropWhile_cons, if_neg h]
theorem take_l {R p c k : Nat} {s : ByteArray} {W : World} (l : List UInt8) (t : ByteArray) (hl : t.data.toList = l) (hk : t.size = k) (h : Rd W R s p c W) (hp : p ≤ s.size) (hs : s.size ≤ 1000000000000) :
  Calls Tryz.prog 24 #[.pointer (some ⟨R, 0, none⟩), .string t] W fun en W' => (l.isPrefixOf (rest s p) = true ∧ p + k ≤ s.size ∧ en = .returned (.bool true) ∧ Rd W R s (p + k) c W') ∨ (l.isPrefixOf (rest s p) = false ∧ en = .returned (.bool false) ∧ Below W.heap.size W W') := by
 have := take_any t h hp hs
 rw [hl, hk] at this
 exact this
theorem next_l {R p c : Nat} {s : ByteArray} {W : World} (l : List UInt8) (t : ByteArray) (hl : t.data.toList = l) (h : Rd W R s p c W) (hp : p ≤ s.size) :
  Calls Tryz.prog 26 #[.pointer (some ⟨R, 0, none⟩), .string t] W fun en W' => en = .returned (.bool (l.isPrefixOf (rest s p))) ∧ Below W.heap.size W W' := by
 have := next_any t h hp
 rw [hl] at this
 exact this
theorem must_l {R p c : Nat} {s : ByteArray} {W : World} (l : List UInt8) (t : ByteArray) (hl : t.data.toList = l) (h : Rd W R s p c W) (hp : p ≤ s.size) (hs : s.size ≤ 1000000000000) :
  Calls Tryz.prog 36 #[.pointer (some ⟨R, 0, none⟩), .string t] W (Ends W R s c (X.must l (rest s p)) (fun _ => .tuple #[])) := by
 have := must_any t h hp hs
 rw [hl] at this
 exact this
theorem Ends.of {α : Type} {w W W' : World} {R c p : Nat} {s : ByteArray} {x : X.Res α} {f : α → Value} {en : Ending} (h : Rd w R s p c W) (g : Ends W R s c x f en W') : Ends w R s c x f en W' := by
 rcases g with ⟨a, r, h1, h2, h3⟩ | ⟨n, e, h1, h2, h3⟩
 · exact Or.inl ⟨a, r, h1, h2, h.trans h3⟩
 · exact Or.inr ⟨n, e, h1, h2, h.g.trans h3⟩
theorem comment_any {R p c B : Nat} {s : ByteArray} {W : World} (f : Nat) (hf : s.size - p < f) (h : Rd W R s p c W) (hp : p ≤ s.size) (hs : s.size ≤ 1000000000000) (hG : Ground B W) (hB : B ≤ R) :
  Calls Tryz.prog 33 #[.pointer (some ⟨R, 0, none⟩)] W (Ends W R s c (X.comment f (rest s p)) (fun _ => .tuple #[])) := by
 obtain ⟨RES, hRES⟩ : ∃ x, X.comment f (rest s p) = x := ⟨_, rfl⟩
 rw [hRES]
 have HI0 : Hid (s.size - p < f ∧ p ≤ s.size ∧ X.comment f (rest s p) = RES) := ⟨hf, hp, hRES⟩
 have HR := hid h
 have HG := hid hG
 clear h hf hp hRES hG
 go_enter Tryz.func33, Tryz.ntmps33
 go_wp2_with fail
 go_loopw [] (fun wr => ∃ (q k : Nat), Hid (s.size - q < k ∧ q ≤ s.size ∧ X.comment k (rest s q) = RES) ∧ Hid (Rd W R s q c wr)) (fun wr => s.size - posOf wr R)
 case atStart => exact ⟨p, f, HI0, HR⟩
 case round =>
  obtain ⟨q, k, HI, HQ⟩ := hrel
  clear HI0 HR
  obtain ⟨h1, h2, h3⟩ := HI.out
  obtain ⟨k, rfl⟩ : ∃ k', k = k' + 1 := ⟨k - 1, by omega⟩
  have cT := take_any ⟨#[45, 45, 62]⟩ HQ.out.own h2 hs
  have HPOS := hid HQ.out.pos
  clear h1 h3
  go_wp2_with fail
  refine cT.mono ?_
  rintro e w1 (⟨g1, g2, rfl, g3⟩ | ⟨g1, rfl, g3⟩)
  · have HE : Hid (RES = .ok ((), rest s (q + 3)) ∧ s.size - (rest s (q + 3)).length = q + 3) := by
      refine ⟨?_, by have : q + 3 ≤ s.size := g2; rw [rest_len]; omega⟩
      rw [← HI.out.2.2, X.comment, if_pos (show [45, 45, 62].isPrefixOf (rest s q) = true from g1), rest_drop]
    have H1 := hid (HQ.out.trans g3)
    clear g1 g2 g3 cT
    go_wp2_with fail
    go_end0
    exact Or.inl ⟨(), _, HE.out.1, rfl, by rw [HE.out.2]; exact H1.out⟩
  · have H1 := hid (HQ.out.below g3)
    have hn1 : ¬ [45, 45, 62].isPrefixOf (rest s q) = true := by rw [show [45, 45, 62].isPrefixOf (rest s q) = false from g1]; decide
    have cN := next_any ⟨#[45, 45]⟩ H1.out.own h2
    rw [show (⟨#[45, 45]⟩ : ByteArray).data.toList.isPrefixOf (rest s q) = [45, 45].isPrefixOf (rest s q) from rfl] at cN
    cases hb : [45, 45].isPrefixOf (rest s q)
    · rw [hb] at cN
      have HE : Hid (RES = (match X.char (rest s q) with | .error e => .error e | .ok (_, r) => X.comment k r)) := by
        show _ = _
        rw [← HI.out.2.2, X.comment, if_neg hn1, hb]
        rfl
      have hfair := X.char_fair (rest s q)
      have cC := fun w' (h : Rd w' R s q c w') (g : Ground B w') => char_any h h2 hs g
      have HF := hid hfair
      clear g1 g3 cT hn1 hb hfair
      go_wp2_with fail
      refine cN.mono ?_
      rintro e w2 ⟨rfl, hbl⟩
      have H2 := hid (H1.out.below hbl)
      clear hbl cN
      go_wp2_with fail
      refine (cC _ H2.out.own (HG.out.rd H2.out hB)).mono ?_
      rintro e w3 (⟨x, r, hx, rfl, hr⟩ | ⟨n, e, hx, rfl, hr⟩)
      · have hsuf := (HF.out.1 _ _ hx).1
        have hlen := (HF.out.1 _ _ hx).2
        rw [rest_len] at hlen
        have hpos := rest_pos hsuf h2
        have H3 : Hid (s.size - (s.size - r.length) < k ∧ s.size - r.length ≤ s.size ∧ X.comment k (rest s (s.size - r.length)) = RES) := by
         refine ⟨by have := HI.out.1; omega, by omega, ?_⟩
         rw [HE.out, hx, ← rest_suf hsuf]
        have H4 := hid (H2.out.trans hr)
        have H5 : Hid (s.size - (s.size - r.length) < s.size - q) := by show _ < _; omega
        clear hx hr hsuf hlen hpos cC HE HF
        go_wp2_with fail
        go_roundw
        case rel => exact ⟨_, k, H3, H4⟩
        case measure => rw [H4.out.pos, HPOS.out]; exact H5.out
      · have HE2 : Hid (RES = .error (n, e)) := by show _ = _; rw [HE.out, hx]
        exact ⟨rfl, Or.inr ⟨_, _, HE2.out, rfl, H2.out.g.trans hr⟩⟩
    · rw [hb] at cN
      have HE : Hid (RES = .error (X.bad (rest s q))) := by
        show _ = _
        rw [← HI.out.2.2, X.comment, if_neg hn1, if_pos hb]
      have cB := fun w' (h : Rd w' R s q c w') => bad_any h h2
      clear g1 g3 cT hn1 hb
      go_wp2_with fail
      refine cN.mono ?_
      rintro e w2 ⟨rfl, hbl⟩
      have H2 := hid (H1.out.below hbl)
      clear hbl cN
      go_wp2_with fail
      refine (cB _ H2.out.own).mono ?_
      rintro e w3 ⟨rfl, hbl⟩
      exact ⟨rfl, Or.inr ⟨_, _, HE.out, rfl, (H2.out.below hbl).g⟩⟩
theorem misc_any {R p c B : Nat} {s : ByteArray} {W : World} (f : Nat) (hf : s.size - p < f) (h : Rd W R s p c W) (hp : p ≤ s.size) (hs : s.size ≤ 1000000000000) (hG : Ground B W) (hB : B ≤ R) :
  Calls Tryz.prog 25 #[.pointer (some ⟨R, 0, none⟩)] W (Ends W R s c (X.misc f (rest s p)) (fun _ => .tuple #[])) := by
 obtain ⟨RES, hRES⟩ : ∃ x, X.misc f (rest s p) = x := ⟨_, rfl⟩
 rw [hRES]
 have cB0 := blanks_any h hp hs
 have hsk := X.Suf.skip (rest s p)
 have hpos := rest_pos hsk hp
 obtain ⟨q, hq⟩ : ∃ q, s.size - (X.skip (rest s p)).length = q := ⟨_, rfl⟩
 have hqe : X.skip (rest s p) = rest s q := by rw [← hq]; exact rest_suf hsk
 rw [hq] at cB0 hpos
 have hidem : X.skip (rest s q) = rest s q := by rw [← hqe]; exact X.skip_skip _
 obtain ⟨f, rfl⟩ : ∃ f', f = f' + 1 := ⟨f - 1, by omega⟩
 have HI0 : Hid (s.size - q < f + 1 ∧ q ≤ s.size ∧ X.skip (rest s q) = rest s q ∧ X.misc (f + 1) (rest s q) = RES) := by
  refine ⟨by omega, hpos.2, hidem, ?_⟩
  rw [← hRES, X.misc, X.misc, hidem, hqe]
 have HR := hid h
 have HG := hid hG
 clear h hf hp hRES hG hsk hpos hqe hidem hq
 go_enter Tryz.func25, Tryz.ntmps25
 go_wp2_with fail
 refine cB0.mono ?_
 rintro e w0 ⟨rfl, hr0⟩
 have HR0 := hid (HR.out.trans hr0)
 clear hr0 cB0
 go_wp2_with fail
 go_loopw [] (fun wr => ∃ (q k : Nat), Hid (s.size - q < k ∧ q ≤ s.size ∧ X.skip (rest s q) = rest s q ∧ X.misc k (rest s q) = RES) ∧ Hid (Rd W R s q c wr)) (fun wr => s.size - posOf wr R)
 case atStart => exact ⟨q, f + 1, HI0, HR0⟩
 case round =>
  obtain ⟨q, k, HI, HQ⟩ := hrel
  clear HI0 HR HR0
  obtain ⟨h1, h2, h0, h3⟩ := HI.out
  obtain ⟨k, rfl⟩ : ∃ k', k = k' + 1 := ⟨k - 1, by omega⟩
  have cT := take_l (k := 4) [60, 33, 45, 45] ⟨#[60, 33, 45, 45]⟩ rfl rfl HQ.out.own h2 hs
  have HPOS := hid HQ.out.pos
  clear h1 h0 h3
  go_wp2_with fail
  refine cT.mono ?_
  rintro e w1 (⟨g1, g2, rfl, g3⟩ | ⟨g1, rfl, g3⟩)
  · have HE : Hid (RES = (match X.comment ((rest s q).length + 1) (rest s (q + 4)) with | .error e => .error e | .ok (_, r) => X.misc k r)) := by
      show _ = _
      rw [← HI.out.2.2.2, X.misc, HI.out.2.2.1, if_pos g1, rest_drop]
      rfl
    have H1 := hid (HQ.out.trans g3)
    have cC := comment_any ((rest s q).length + 1) (by rw [rest_len]; omega) H1.out.own g2 hs (HG.out.rd H1.out hB) hB
    have HF := hid (X.comment_fair ((rest s q).length + 1) (rest s (q + 4)))
    have cBl := fun w' p' (h : Rd w' R s p' c w') (hp : p' ≤ s.size) => blanks_any h hp hs
    clear g1 g3 cT
    go_wp2_with fail
    refine cC.mono ?_
    rintro e w2 (⟨x, r, hx, rfl, hr⟩ | ⟨n, e, hx, rfl, hr⟩)
    · have hsuf := (HF.out.1 _ _ hx).1
      have hlen := hsuf.len
      rw [rest_len] at hlen
      have hpos := rest_pos hsuf g2
      have hre := rest_suf hsuf
      obtain ⟨u, hu⟩ : ∃ u, s.size - r.length = u := ⟨_, rfl⟩
      rw [hu] at hr hpos hre
      have H2 := hid (H1.out.trans hr)
      have hsk := X.Suf.skip (rest s u)
      have hpos2 := rest_pos hsk hpos.2
      have hre2 := rest_suf hsk
      have cB1 := cBl _ _ H2.out.own hpos.2
      obtain ⟨v, hv⟩ : ∃ v, s.size - (X.skip (rest s u)).length = v := ⟨_, rfl⟩
      rw [hv] at hpos2 hre2 cB1
      have hidem : X.skip (rest s v) = rest s v := by rw [← hre2]; exact X.skip_skip _
      have H3 : Hid (s.size - v < k ∧ v ≤ s.size ∧ X.skip (rest s v) = rest s v ∧ X.misc k (rest s v) = RES) := by
       refine ⟨by have := HI.out.1; omega, hpos2.2, hidem, ?_⟩
       rw [HE.out, hx]
       show _ = X.misc k r
       rw [hre]
       obtain ⟨k0, hk0⟩ : ∃ k0, k = k0 + 1 := ⟨k - 1, by have := HI.out.1; omega⟩
       rw [hk0, X.misc, X.misc, hidem, hre2]
      have H5 : Hid (s.size - v < s.size - q) := by show _ < _; omega
      clear hx hr hsuf hlen hpos hre hsk hpos2 hre2 hidem hu hv cBl HE HF cC
      go_wp2_with fail
      refine cB1.mono ?_
      rintro e w3 ⟨rfl, hr3⟩
      have H4 := hid (H2.out.trans hr3)
      clear hr3 cB1
      go_wp2_with fail
      go_roundw
      case rel => exact ⟨_, k, H3, H4⟩
      case measure => rw [H4.out.pos, HPOS.out]; exact H5.out
    · have HE2 : Hid (RES = .error (n, e)) := by show _ = _; rw [HE.out, hx]
      exact ⟨rfl, Or.inr ⟨_, _, HE2.out, rfl, H1.out.g.trans hr⟩⟩
  · have H1 := hid (HQ.out.below g3)
    have HE : Hid (RES = .ok ((), rest s q) ∧ s.size - (rest s q).length = q) := by
      refine ⟨?_, by rw [rest_len]; omega⟩
      rw [← HI.out.2.2.2, X.misc, HI.out.2.2.1, if_neg (by rw [g1]; decide)]
    clear g1 g3 cT
    go_wp2_with fail
    go_end0
    exact Or.inl ⟨(), _, HE.out.1, rfl, by rw [HE.out.2]; exact H1.out⟩
theorem letter_any (c : UInt8) (W : World) : Calls Tryz.prog 54 #[.int .u8 c.toNat] W fun en W' => en = .returned (.bool (X.letter c)) ∧ W' = W := by
 obtain ⟨n, hn⟩ : ∃ n, c.toNat = n := ⟨_, rfl⟩
 have hL : X.letter c = (decide (97 ≤ n ∧ n ≤ 122) || decide (65 ≤ n ∧ n ≤ 90) || decide (n = 95)) := by unfold X.letter; rw [hn]
 rw [hL, hn]
 clear hL hn c
 have hcl : (97 ≤ n ∧ n ≤ 122) ∨ (122 < n) ∨ (65 ≤ n ∧ n ≤ 90) ∨ n = 95 ∨ (90 < n ∧ n < 97 ∧ n ≠ 95) ∨ n < 65 := by omega
 rcases hcl with h | h | h | h | h | h
 · rw [show (decide (97 ≤ n ∧ n ≤ 122) || decide (65 ≤ n ∧ n ≤ 90) || decide (n = 95)) = true by simp; omega]
   have ta : decide ((97 : Int) ≤ (n : Int)) = true := decide_eq_true (by omega)
   have tb : decide ((n : Int) ≤ 122) = true := decide_eq_true (by omega)
   have td : decide ((65 : Int) ≤ (n : Int)) = true := decide_eq_true (by omega)
   have te : decide ((n : Int) ≤ 90) = false := decide_eq_false (by omega)
   have q : ((n : Int) == 95) = false := beq_eq_false_iff_ne.2 (by omega)
   clear h
   go_enter Tryz.func54, Tryz.ntmps54
   go_wp2
   go_ret
   exact ⟨rfl, rfl⟩
 · rw [show (decide (97 ≤ n ∧ n ≤ 122) || decide (65 ≤ n ∧ n ≤ 90) || decide (n = 95)) = false by simp; omega]
   have ta : decide ((97 : Int) ≤ (n : Int)) = true := decide_eq_true (by omega)
   have tb : decide ((n : Int) ≤ 122) = false := decide_eq_false (by omega)
   have td : decide ((65 : Int) ≤ (n : Int)) = true := decide_eq_true (by omega)
   have te : decide ((n : Int) ≤ 90) = false := decide_eq_false (by omega)
   have q : ((n : Int) == 95) = false := beq_eq_false_iff_ne.2 (by omega)
   clear h
   go_enter Tryz.func54, Tryz.ntmps54
   go_wp2
   go_ret
   exact ⟨rfl, rfl⟩
 · rw [show (decide (97 ≤ n ∧ n ≤ 122) || decide (65 ≤ n ∧ n ≤ 90) || decide (n = 95)) = true by simp; omega]
   have ta : decide ((97 : Int) ≤ (n : Int)) = false := decide_eq_false (by omega)
   have tb : decide ((n : Int) ≤ 122) = true := decide_eq_true (by omega)
   have td : decide ((65 : Int) ≤ (n : Int)) = true := decide_eq_true (by omega)
   have te : decide ((n : Int) ≤ 90) = true := decide_eq_true (by omega)
   have q : ((n : Int) == 95) = false := beq_eq_false_iff_ne.2 (by omega)
   clear h
   go_enter Tryz.func54, Tryz.ntmps54
   go_wp2
   go_ret
   exact ⟨rfl, rfl⟩
 · rw [show (decide (97 ≤ n ∧ n ≤ 122) || decide (65 ≤ n ∧ n ≤ 90) || decide (n = 95)) = true by subst h; rfl]
   have ta : decide ((97 : Int) ≤ (n : Int)) = false := decide_eq_false (by omega)
   have tb : decide ((n : Int) ≤ 122) = true := decide_eq_true (by omega)
   have td : decide ((65 : Int) ≤ (n : Int)) = true := decide_eq_true (by omega)
   have te : decide ((n : Int) ≤ 90) = false := decide_eq_false (by omega)
   have q : ((n : Int) == 95) = true := by simp [h]
   clear h
   go_enter Tryz.func54, Tryz.ntmps54
   go_wp2
   go_ret
   exact ⟨rfl, rfl⟩
 · rw [show (decide (97 ≤ n ∧ n ≤ 122) || decide (65 ≤ n ∧ n ≤ 90) || decide (n = 95)) = false by simp; omega]
   have ta : decide ((97 : Int) ≤ (n : Int)) = false := decide_eq_false (by omega)
   have tb : decide ((n : Int) ≤ 122) = true := decide_eq_true (by omega)
   have td : decide ((65 : Int) ≤ (n : Int)) = true := decide_eq_true (by omega)
   have te : decide ((n : Int) ≤ 90) = false := decide_eq_false (by omega)
   have q : ((n : Int) == 95) = false := beq_eq_false_iff_ne.2 (by omega)
   clear h
   go_enter Tryz.func54, Tryz.ntmps54
   go_wp2
   go_ret
   exact ⟨rfl, rfl⟩
 · rw [show (decide (97 ≤ n ∧ n ≤ 122) || decide (65 ≤ n ∧ n ≤ 90) || decide (n = 95)) = false by simp; omega]
   have ta : decide ((97 : Int) ≤ (n : Int)) = false := decide_eq_false (by omega)
   have tb : decide ((n : Int) ≤ 122) = true := decide_eq_true (by omega)
   have td : decide ((65 : Int) ≤ (n : Int)) = false := decide_eq_false (by omega)
   have te : decide ((n : Int) ≤ 90) = true := decide_eq_true (by omega)
   have q : ((n : Int) == 95) = false := beq_eq_false_iff_ne.2 (by omega)
   clear h
   go_enter Tryz.func54, Tryz.ntmps54
   go_wp2
   go_ret
   exact ⟨rfl, rfl⟩
end Go.Proofs.YteejphiklpnjhaaGreatDoor
namespace Go.Proofs.YteejphiklpnjhaaGreatDoor
set_option maxRecDepth 100000
set_option maxHeartbeats 16000000
open Go.RowKit
open Go.Lib (hid)
namespace X
theorem index_digits (c : UInt8) : decide ((0 : Int) ≤ Lib.indexByte [48, 49, 50, 51, 52, 53, 54, 55, 56, 57, 45, 46] c) = (decide (48 ≤ c.toNat ∧ c.toNat ≤ 57) || decide (c.toNat = 45 ∨ c.toNat = 46)) := by
 have hf : ∀ y : Fin 256, decide ((0 : Int) ≤ Lib.indexByte [48, 49, 50, 51, 52, 53, 54, 55, 56, 57, 45, 46] (UInt8.ofNat y.val)) = (decide (48 ≤ y.val ∧ y.val ≤ 57) || decide (y.val = 45 ∨ y.val = 46)) := by decide +kernel
 have := hf ⟨c.toNat, c.toNat_lt⟩
 simpa using this
def tailLen (first : Bool) (l : List UInt8) : Nat := if first then (partL l).length else (l.takeWhile other).length
theorem tail_nil (b : Bool) : tailLen b [] = 0 := by cases b <;> rfl
theorem tail_yes {b : Bool} {c : UInt8} {r : List UInt8} (h : letter c = true ∨ (b = false ∧ other c = true)) : tailLen b (c :: r) = 1 + tailLen false r := by
 have ho : b = false → other c = true := fun hb => by
   rcases h with h | h
   · unfold other; rw [h]; rfl
   · exact h.2
 cases b
 · show ((c :: r).takeWhile other).length = 1 + (r.takeWhile other).length
   rw [List.takeWhile_cons, if_pos (ho rfl)]; simp; omega
 · rcases h with h | h
   · show (partL (c :: r)).length = 1 + (r.takeWhile other).length
     rw [partL, if_pos h]; simp; omega
   · cases h.1
theorem tail_no {b : Bool} {c : UInt8} {r : List UInt8} (h1 : letter c = false) (h2 : b = false → other c = false) : tailLen b (c :: r) = 0 := by
 cases b
 · show ((c :: r).takeWhile other).length = 0
   rw [List.takeWhile_cons, if_neg (by rw [h2 rfl]; decide)]; rfl
 · show (partL (c :: r)).length = 0
   rw [partL, if_neg (by rw [h1]; decide)]; rfl
theorem take_partL (l : List UInt8) : l.take (partL l).length = partL l := by
 obtain ⟨r, h⟩ := partL_pre l
 obtain ⟨q, hq⟩ : ∃ q, partL l = q := ⟨_, rfl⟩
 rw [hq] at h ⊢
 rw [← h, List.take_left]
end X
theorem rest_cons {s : ByteArray} {p : Nat} (h : p < s.size) : rest s p = s[p] :: rest s (p + 1) := by
 unfold rest
 rw [List.drop_eq_getElem_cons (by rw [← Lib.size_eq]; exact h)]
 rfl
theorem extract_part (s : ByteArray) (p : Nat) : s.extract p (p + (X.partL (rest s p)).length) = X.ba (X.partL (rest s p)) := by
 rw [W.extract_eq]
 show X.ba ((rest s p).take _) = _
 rw [X.take_partL]
def PartAt (s : ByteArray) (p N e : Nat) : Prop := p ≤ e ∧ e ≤ p + N ∧ ∃ b, b = decide (e = p) ∧ p + N = e + X.tailLen b (rest s e)
theorem PartAt.yes {s : ByteArray} {p N e : Nat} (h : PartAt s p N e) (hlt : e < s.size) (hy : X.letter (s[e]'hlt) = true ∨ (p < e ∧ X.other (s[e]'hlt) = true)) : PartAt s p N (e + 1) := by
 obtain ⟨h1, h2, b, hb, h3⟩ := h
 rw [rest_cons hlt, X.tail_yes (by
  rcases hy with hy | hy
  · exact Or.inl hy
  · exact Or.inr ⟨by rw [hb]; exact decide_eq_false (by omega), hy.2⟩)] at h3
 exact ⟨by omega, by omega, false, (decide_eq_false (by omega)).symm, by omega⟩
theorem PartAt.no {s : ByteArray} {p N e : Nat} (h : PartAt s p N e) (hlt : e < s.size) (h1 : X.letter (s[e]'hlt) = false) (h2 : p < e → X.other (s[e]'hlt) = false) : e = p + N := by
 obtain ⟨g1, g2, b, hb, h3⟩ := h
 rw [rest_cons hlt, X.tail_no h1 (fun hf => h2 (by rw [hb] at hf; have := of_decide_eq_false hf; omega))] at h3
 omega
theorem PartAt.end {s : ByteArray} {p N e : Nat} (h : PartAt s p N e) (hge : s.size ≤ e) : e = p + N := by
 obtain ⟨g1, g2, b, hb, h3⟩ := h
 rw [(rest_nil s e).2 hge, X.tail_nil] at h3
 omega
theorem part_any {R p c : Nat} {s : ByteArray} {W : World} (h : Rd W R s p c W) (hp : p ≤ s.size) (hs : s.size ≤ 1000000000000) :
  Calls Tryz.prog 53 #[.pointer (some ⟨R, 0, none⟩)] W (Ends W R s c (X.part (rest s p)) (fun l => .string (X.ba l))) := by
 obtain ⟨N, hN⟩ : ∃ N, (X.partL (rest s p)).length = N := ⟨_, rfl⟩
 have hNl : p + N ≤ s.size := by have := X.partL_len (rest s p); rw [rest_len] at this; omega
 have HI0 : Hid (PartAt s p N p) := ⟨Nat.le_refl _, Nat.le_add_right _ _, true, (decide_eq_true rfl).symm, by show _ = p + (X.partL (rest s p)).length; rw [hN]⟩
 have HR := hid h
 have HN := hid hN
 obtain ⟨c0, c1, -⟩ := h.cells
 clear h hN
 go_enter Tryz.func53, Tryz.ntmps53
 go_wp2_with fail
 go_loopw [3] (fun vi wr => ∃ (e : Nat), vi = .int .i64 e ∧ Hid (PartAt s p N e) ∧ Hid (Rd W R s p c wr)) (fun vi _ => s.size - (intOf vi).toNat)
 case atStart => exact ⟨p, rfl, HI0, HR⟩
 case round =>
  obtain ⟨e, rfl, HI, HQ⟩ := hrel
  clear HI0 HR c0 c1
  obtain ⟨c0, c1, -⟩ := HQ.out.cells
  have cI := fun (b : UInt8) U => Tryz.strings_IndexByte ⟨#[48, 49, 50, 51, 52, 53, 54, 55, 56, 57, 45, 46]⟩ b.toNat U
  by_cases hlt : e < s.size
  · have d0 : decide ((e : Int) < (s.size : Int)) = true := decide_eq_true (by omega)
    have d1 : decide (e < s.size) = true := decide_eq_true hlt
    have i0 : (0 : Int) ≤ (e : Int) := by omega
    have i1 : (e : Int) < (s.size : Int) := by omega
    have cL := fun U => letter_any (s[e]'hlt) U
    have cI := cI (s[e]'hlt)
    have hdig := X.index_digits (s[e]'hlt)
    have hoth : X.other (s[e]'hlt) = (X.letter (s[e]'hlt) || (decide (48 ≤ (s[e]'hlt).toNat ∧ (s[e]'hlt).toNat ≤ 57) || decide ((s[e]'hlt).toNat = 45 ∨ (s[e]'hlt).toNat = 46))) := by unfold X.other; rw [Bool.or_assoc]
    rw [← hdig] at hoth
    obtain ⟨ix, hix⟩ : ∃ ix, Lib.indexByte [48, 49, 50, 51, 52, 53, 54, 55, 56, 57, 45, 46] (s[e]'hlt) = ix := ⟨_, rfl⟩
    rw [hix] at hoth
    replace cI : ∀ U, Calls Tryz.prog 80 #[.string ⟨#[48, 49, 50, 51, 52, 53, 54, 55, 56, 57, 45, 46]⟩, .int .u8 (s[e]'hlt).toNat] U fun e w' => e = .returned (.int .i64 ix) ∧ w' = U := fun U => by
      have h0 : ((((s[e]'hlt).toNat : Int).toNat).toUInt8) = s[e]'hlt := by simp
      have := cI U
      rw [h0] at this
      rw [← hix]; exact this
    clear hdig hix
    have hcl : X.letter (s[e]'hlt) = true ∨ (X.letter (s[e]'hlt) = false ∧ p < e ∧ decide ((0 : Int) ≤ ix) = true) ∨ (X.letter (s[e]'hlt) = false ∧ p < e ∧ decide ((0 : Int) ≤ ix) = false) ∨ (X.letter (s[e]'hlt) = false ∧ ¬ p < e) := by
      cases X.letter (s[e]'hlt) <;> cases decide ((0 : Int) ≤ ix) <;> simp <;> omega
    rcases hcl with g1 | ⟨g1, g2, g3⟩ | ⟨g1, g2, g3⟩ | ⟨g1, g2⟩
    · rw [g1] at cL
      have HN2 := hid (HI.out.yes hlt (Or.inl g1))
      clear HI
      go_wp2_with fail
      refine (cL _).mono ?_
      rintro e1 w1 ⟨rfl, rfl⟩
      go_wp2_with fail
      go_roundw
      case rel => exact ⟨e + 1, by go_num, HN2, HQ⟩
      case measure => simp [intOf]; omega
    · rw [g1] at cL
      have k0 : decide ((p : Int) < (e : Int)) = true := decide_eq_true (by omega)
      have k1 : decide (p < e) = true := decide_eq_true g2
      rw [g1, g3] at hoth
      have HN2 := hid (HI.out.yes hlt (Or.inr ⟨g2, hoth⟩))
      clear HI
      go_wp2_with fail
      refine (cL _).mono ?_
      rintro e1 w1 ⟨rfl, rfl⟩
      go_wp2_with fail
      refine (cI _).mono ?_
      rintro e2 w2 ⟨rfl, rfl⟩
      go_wp2_with fail
      go_roundw
      case rel => exact ⟨e + 1, by go_num, HN2, HQ⟩
      case measure => simp [intOf]; omega
    · rw [g1] at cL
      have k0 : decide ((p : Int) < (e : Int)) = true := decide_eq_true (by omega)
      have k1 : decide (p < e) = true := decide_eq_true g2
      rw [g1, g3] at hoth
      have he := HI.out.no hlt g1 (fun _ => hoth)
      clear hoth
      have HQE := hid he
      have hqs : e ≤ s.size := by omega
      have hpq : p ≤ e := by omega
      have P0 : (0 : Int) ≤ (p : Int) := by omega
      have P1 : (p : Int) ≤ (e : Int) := by omega
      have P2 : (e : Int) ≤ (s.size : Int) := by omega
      have hc : N = 0 ∨ 32 < N ∨ (N ≠ 0 ∧ N ≤ 32) := by omega
      have cB := fun w' (h : Rd w' R s p c w') => bad_any h hp
      have cF := fun U => fail_any 3 (p : Int) U
      clear HI
      rcases hc with hc | hc | ⟨hc0, hc⟩
      · have s0 : ((e : Int) == (p : Int)) = true := by rw [show e = p by omega]; simp
        have HE : Hid (X.part (rest s p) = .error (X.bad (rest s p))) := by
         show _ = _
         unfold X.part
         rw [if_pos (List.eq_nil_of_length_eq_zero (by rw [HN.out, hc]))]
        clear hc he
        go_wp2_with fail
        refine (cL _).mono ?_
        rintro e1 w1 ⟨rfl, rfl⟩
        go_wp2_with fail
        refine (cI _).mono ?_
        rintro e2 w2 ⟨rfl, rfl⟩
        go_wp2_with fail
        refine (cB _ HQ.out.own).mono ?_
        rintro en w3 ⟨rfl, hbl⟩
        exact ⟨rfl, Or.inr ⟨_, _, HE.out, rfl, (HQ.out.below hbl).g⟩⟩
      · have s0 : ((e : Int) == (p : Int)) = false := beq_eq_false_iff_ne.2 (by omega)
        have s1 : decide ((32 : Int) < (e : Int) - (p : Int)) = true := decide_eq_true (by omega)
        have HE : Hid (X.part (rest s p) = .error (s.size - p, 3) ∧ s.size - (s.size - p) = p) := by
         refine ⟨?_, by omega⟩
         unfold X.part
         rw [if_neg (fun hh => by have := HN.out; rw [hh] at this; simp at this; omega), HN.out, if_pos hc, rest_len]
        clear hc he
        go_wp2_with fail
        refine (cL _).mono ?_
        rintro e1 w1 ⟨rfl, rfl⟩
        go_wp2_with fail
        refine (cI _).mono ?_
        rintro e2 w2 ⟨rfl, rfl⟩
        go_wp2_with fail
        refine (cF _).mono ?_
        rintro en w3 ⟨rfl, rfl⟩
        exact ⟨rfl, Or.inr ⟨_, _, HE.out.1, by rw [HE.out.2], HQ.out.g⟩⟩
      · have s0 : ((e : Int) == (p : Int)) = false := beq_eq_false_iff_ne.2 (by omega)
        have s1 : decide ((32 : Int) < (e : Int) - (p : Int)) = false := decide_eq_false (by omega)
        have HE : Hid (X.part (rest s p) = .ok (X.partL (rest s p), rest s e) ∧ s.size - (rest s e).length = e ∧ s.extract p e = X.ba (X.partL (rest s p))) := by
         refine ⟨?_, by rw [rest_len]; omega, by rw [HQE.out, ← HN.out]; exact extract_part s p⟩
         unfold X.part
         rw [if_neg (fun hh => by have := HN.out; rw [hh] at this; simp at this; omega), HN.out, if_neg (by omega), rest_drop, ← HQE.out]
        have f1 := HQ.out.free 1
        clear hc hc0 he
        go_wp2_with fail
        refine (cL _).mono ?_
        rintro e1 w1 ⟨rfl, rfl⟩
        go_wp2_with fail
        refine (cI _).mono ?_
        rintro e2 w2 ⟨rfl, rfl⟩
        go_wp2_with fail
        go_region
        go_wp2_with fail
        go_ret
        exact Or.inl ⟨_, _, HE.out.1, by rw [HE.out.2.2]; rfl, by rw [HE.out.2.1]; exact HQ.out.drew.set1 e⟩
    · rw [g1] at cL
      have k0 : decide ((p : Int) < (e : Int)) = false := decide_eq_false (by omega)
      have k1 : decide (p < e) = false := decide_eq_false g2
      have he := HI.out.no hlt g1 (fun h => absurd h g2)
      clear hoth cI
      have HQE := hid he
      have hqs : e ≤ s.size := by omega
      have hpq : p ≤ e := by omega
      have P0 : (0 : Int) ≤ (p : Int) := by omega
      have P1 : (p : Int) ≤ (e : Int) := by omega
      have P2 : (e : Int) ≤ (s.size : Int) := by omega
      have hc : N = 0 ∨ 32 < N ∨ (N ≠ 0 ∧ N ≤ 32) := by omega
      have cB := fun w' (h : Rd w' R s p c w') => bad_any h hp
      have cF := fun U => fail_any 3 (p : Int) U
      clear HI
      rcases hc with hc | hc | ⟨hc0, hc⟩
      · have s0 : ((e : Int) == (p : Int)) = true := by rw [show e = p by omega]; simp
        have HE : Hid (X.part (rest s p) = .error (X.bad (rest s p))) := by
         show _ = _
         unfold X.part
         rw [if_pos (List.eq_nil_of_length_eq_zero (by rw [HN.out, hc]))]
        clear hc he
        go_wp2_with fail
        refine (cL _).mono ?_
        rintro e1 w1 ⟨rfl, rfl⟩
        go_wp2_with fail
        refine (cB _ HQ.out.own).mono ?_
        rintro en w3 ⟨rfl, hbl⟩
        exact ⟨rfl, Or.inr ⟨_, _, HE.out, rfl, (HQ.out.below hbl).g⟩⟩
      · have s0 : ((e : Int) == (p : Int)) = false := beq_eq_false_iff_ne.2 (by omega)
        have s1 : decide ((32 : Int) < (e : Int) - (p : Int)) = true := decide_eq_true (by omega)
        have HE : Hid (X.part (rest s p) = .error (s.size - p, 3) ∧ s.size - (s.size - p) = p) := by
         refine ⟨?_, by omega⟩
         unfold X.part
         rw [if_neg (fun hh => by have := HN.out; rw [hh] at this; simp at this; omega), HN.out, if_pos hc, rest_len]
        clear hc he
        go_wp2_with fail
        refine (cL _).mono ?_
        rintro e1 w1 ⟨rfl, rfl⟩
        go_wp2_with fail
        refine (cF _).mono ?_
        rintro en w3 ⟨rfl, rfl⟩
        exact ⟨rfl, Or.inr ⟨_, _, HE.out.1, by rw [HE.out.2], HQ.out.g⟩⟩
      · have s0 : ((e : Int) == (p : Int)) = false := beq_eq_false_iff_ne.2 (by omega)
        have s1 : decide ((32 : Int) < (e : Int) - (p : Int)) = false := decide_eq_false (by omega)
        have HE : Hid (X.part (rest s p) = .ok (X.partL (rest s p), rest s e) ∧ s.size - (rest s e).length = e ∧ s.extract p e = X.ba (X.partL (rest s p))) := by
         refine ⟨?_, by rw [rest_len]; omega, by rw [HQE.out, ← HN.out]; exact extract_part s p⟩
         unfold X.part
         rw [if_neg (fun hh => by have := HN.out; rw [hh] at this; simp at this; omega), HN.out, if_neg (by omega), rest_drop, ← HQE.out]
        have f1 := HQ.out.free 1
        clear hc hc0 he
        go_wp2_with fail
        refine (cL _).mono ?_
        rintro e1 w1 ⟨rfl, rfl⟩
        go_wp2_with fail
        go_region
        go_wp2_with fail
        go_ret
        exact Or.inl ⟨_, _, HE.out.1, by rw [HE.out.2.2]; rfl, by rw [HE.out.2.1]; exact HQ.out.drew.set1 e⟩
  · have d0 : decide ((e : Int) < (s.size : Int)) = false := decide_eq_false (by omega)
    have d1 : decide (e < s.size) = false := decide_eq_false hlt
    have he := HI.out.end (by omega)
    clear cI
    have HQE := hid he
    have hqs : e ≤ s.size := by omega
    have hpq : p ≤ e := by omega
    have P0 : (0 : Int) ≤ (p : Int) := by omega
    have P1 : (p : Int) ≤ (e : Int) := by omega
    have P2 : (e : Int) ≤ (s.size : Int) := by omega
    have hc : N = 0 ∨ 32 < N ∨ (N ≠ 0 ∧ N ≤ 32) := by omega
    have cB := fun w' (h : Rd w' R s p c w') => bad_any h hp
    have cF := fun U => fail_any 3 (p : Int) U
    clear HI hlt
    rcases hc with hc | hc | ⟨hc0, hc⟩
    · have s0 : ((e : Int) == (p : Int)) = true := by rw [show e = p by omega]; simp
      have HE : Hid (X.part (rest s p) = .error (X.bad (rest s p))) := by
        show _ = _
        unfold X.part
        rw [if_pos (List.eq_nil_of_length_eq_zero (by rw [HN.out, hc]))]
      clear hc he
      go_wp2_with fail
      refine (cB _ HQ.out.own).mono ?_
      rintro en w3 ⟨rfl, hbl⟩
      exact ⟨rfl, Or.inr ⟨_, _, HE.out, rfl, (HQ.out.below hbl).g⟩⟩
    · have s0 : ((e : Int) == (p : Int)) = false := beq_eq_false_iff_ne.2 (by omega)
      have s1 : decide ((32 : Int) < (e : Int) - (p : Int)) = true := decide_eq_true (by omega)
      have HE : Hid (X.part (rest s p) = .error (s.size - p, 3) ∧ s.size - (s.size - p) = p) := by
        refine ⟨?_, by omega⟩
        unfold X.part
        rw [if_neg (fun hh => by have := HN.out; rw [hh] at this; simp at this; omega), HN.out, if_pos hc, rest_len]
      clear hc he
      go_wp2_with fail
      refine (cF _).mono ?_
      rintro en w3 ⟨rfl, rfl⟩
      exact ⟨rfl, Or.inr ⟨_, _, HE.out.1, by rw [HE.out.2], HQ.out.g⟩⟩
    · have s0 : ((e : Int) == (p : Int)) = false := beq_eq_false_iff_ne.2 (by omega)
      have s1 : decide ((32 : Int) < (e : Int) - (p : Int)) = false := decide_eq_false (by omega)
      have HE : Hid (X.part (rest s p) = .ok (X.partL (rest s p), rest s e) ∧ s.size - (rest s e).length = e ∧ s.extract p e = X.ba (X.partL (rest s p))) := by
        refine ⟨?_, by rw [rest_len]; omega, by rw [HQE.out, ← HN.out]; exact extract_part s p⟩
        unfold X.part
        rw [if_neg (fun hh => by have := HN.out; rw [hh] at this; simp at this; omega), HN.out, if_neg (by omega), rest_drop, ← HQE.out]
      have f1 := HQ.out.free 1
      clear hc hc0 he
      go_wp2_with fail
      go_region
      go_wp2_with fail
      go_ret
      exact Or.inl ⟨_, _, HE.out.1, by rw [HE.out.2.2]; rfl, by rw [HE.out.2.1]; exact HQ.out.drew.set1 e⟩
end Go.Proofs.YteejphiklpnjhaaGreatDoor
namespace Go.Proofs.YteejphiklpnjhaaGreatDoor
set_option maxRecDepth 100000
set_option maxHeartbeats 16000000
open Go.RowKit
open Go.Lib (hid)
theorem infoName : (Tryz.prog.info? 82).map (·.size) = some 2 := by kernel_rfl
theorem Rd.put {w W : World} {R p c X : Nat} {s : ByteArray} (h : Rd w R s p c W) (hX : w.heap.size ≤ X) (i : Nat) (v : Value) : Rd w R s p c (W.setCell ⟨X, i, none⟩ v) := by
 have hg := grownBy_set W X i v
 have hlt := h.lt
 have hne : ∀ k, k < w.heap.size → some k ≠ some X := fun k hk e => by have := Option.some.inj e; omega
 refine ⟨⟨hg.os.trans h.g.os, hg.tape.trans h.g.tape, hg.output.trans h.g.output, Nat.le_trans h.g.size hg.size, fun k hk hk' => by rw [hg.block k (Nat.lt_of_lt_of_le hk h.g.size) (hne k hk)]; exact h.g.block k hk hk'⟩, ?_, h.lt⟩
 rw [hg.block R (Go.lt_of_block h.r) (hne R hlt)]; exact h.r
theorem Rd.alloc {w W : World} {R p c : Nat} {s : ByteArray} (h : Rd w R s p c W) (o : Obj) : Rd w R s p c (W.alloc o) := h.below ((Below.refl _ W).alloc (Nat.le_refl _) o)
def nameV (nm : List UInt8 × List UInt8) : Value := .agg #[.string (X.ba nm.1), .string (X.ba nm.2)]
theorem row2 {w : World} {b : Nat} {x y : Value} {t : TypeId} (h : w.heap[b]? = some (.cells #[x, y] t (0, 0))) : w.cell? ⟨b, 0, none⟩ = some x ∧ w.cell? ⟨b, 1, none⟩ = some y := ⟨rowCell h 0, rowCell h 1⟩
theorem name_any {R p c : Nat} {s : ByteArray} {W : World} (h : Rd W R s p c W) (hp : p ≤ s.size) (hs : s.size ≤ 1000000000000) :
   Calls Tryz.prog 37 #[.pointer (some ⟨R, 0, none⟩)] W (Ends W R s c (X.name (rest s p)) nameV) := by
 obtain ⟨RES, hRES⟩ : ∃ x, X.name (rest s p) = x := ⟨_, rfl⟩
 rw [hRES]
 have HE0 : Hid (RES = (match X.part (rest s p) with
     | .error e => .error e
     | .ok (one, r) => if [58].isPrefixOf r then (match X.part (r.drop 1) with | .error e => .error e | .ok (two, r2) => .ok ((one, two), r2)) else .ok (([], one), r))) := by
   show _ = _
   rw [← hRES]; rfl
 have HF := hid (X.part_fair (rest s p))
 obtain ⟨w1, hw1⟩ : ∃ w1, W.alloc (.cells #[.string ⟨#[]⟩, .string ⟨#[]⟩] 82) = w1 := ⟨_, rfl⟩
 have hX1 : w1.heap[W.heap.size]? = some (.cells #[.string ⟨#[]⟩, .string ⟨#[]⟩] 82 (0, 0)) := by rw [← hw1]; exact heap_alloc_new W _
 have HR1 : Hid (Rd W R s p c w1) := by show Rd _ _ _ _ _ _; rw [← hw1]; exact h.alloc _
 have cP := part_any HR1.out.own hp hs
 have HX1 := hid hX1
 have HW1 := hid hw1
 have HLT := hid h.lt
 clear h hRES hw1 hX1
 go_enter Tryz.func37, Tryz.ntmps37
 go_upto_region 1 with fail
 rw [HW1.out]
 go_wp2_with fail
 refine cP.mono ?_
 rintro e w2 (⟨one, r, hx, rfl, hr⟩ | ⟨n, e, hx, rfl, hr⟩)
 · have hsuf := (HF.out.1 _ _ hx).1
   have hpos := rest_pos hsuf hp
   have hre := rest_suf hsuf
   obtain ⟨q, hq⟩ : ∃ q, s.size - r.length = q := ⟨_, rfl⟩
   rw [hq] at hr hpos hre
   have HE1 : Hid (RES = if [58].isPrefixOf (rest s q) then (match X.part (rest s (q + 1)) with | .error e => .error e | .ok (two, r2) => .ok ((one, two), r2)) else .ok (([], one), rest s q)) := by
     show _ = _
     rw [HE0.out, hx, ← rest_drop, ← hre]
   have HR2 := hid (HR1.out.trans hr)
   have HX2 : Hid (w2.heap[W.heap.size]? = some (.cells #[.string ⟨#[]⟩, .string ⟨#[]⟩] 82 (0, 0))) := by
     show _ = _
     rw [hr.g.block _ (Go.lt_of_block HX1.out) (fun e => by have := Option.some.inj e; have := HLT.out; omega)]; exact HX1.out
   have cT := take_l (k := 1) [58] ⟨#[58]⟩ rfl rfl HR2.out.own hpos.2 hs
   have hq2 := hpos.2
   clear hx hr hsuf hpos hre hq HE0 HF cP HX1
   go_wp2_with fail
   refine cT.mono ?_
   rintro e w3 (⟨g1, g2, rfl, g3⟩ | ⟨g1, rfl, g3⟩)
   · have HR3 := hid (HR2.out.trans g3)
     have cP := part_any HR3.out.own g2 hs
     have HE2 : Hid (RES = (match X.part (rest s (q + 1)) with | .error e => .error e | .ok (two, r2) => .ok ((one, two), r2))) := by
       show _ = _
       rw [HE1.out, if_pos g1]
     have HX3 : Hid (w3.heap[W.heap.size]? = some (.cells #[.string ⟨#[]⟩, .string ⟨#[]⟩] 82 (0, 0))) := by
       show _ = _
       rw [g3.g.block _ (Go.lt_of_block HX2.out) (fun e => by have := Option.some.inj e; have := HLT.out; omega)]; exact HX2.out
     clear g1 g3 cT HE1 HX2
     go_wp2_with fail
     refine cP.mono ?_
     rintro e w4 (⟨two, r, hx, rfl, hr⟩ | ⟨n, e, hx, rfl, hr⟩)
     · have HX4 : Hid (w4.heap[W.heap.size]? = some (.cells #[.string ⟨#[]⟩, .string ⟨#[]⟩] 82 (0, 0))) := by
        show _ = _
        rw [hr.g.block _ (Go.lt_of_block HX3.out) (fun e => by have := Option.some.inj e; have := HLT.out; omega)]; exact HX3.out
       have HE : Hid (RES = .ok ((one, two), r)) := by show _ = _; rw [HE2.out, hx]
       have HR4 := hid (HR3.out.trans hr)
       obtain ⟨x0, x1⟩ := row2 HX4.out
       have f0 := Lib.frozen_of_heap HX4.out 0
       have f1 := Lib.frozen_of_heap HX4.out 1
       clear hx hr HE2 HX3 cP
       go_wp2_with fail
       exact bodyPost_ret (v := nameV (one, two)) (results_cell_row rfl _ _ W.heap.size 82 _ (0, 0) _ rfl (row_set (row_set HX4.out 0 _) 1 _) Tryz.underlying82 rfl infoName) rfl (Or.inl ⟨_, _, HE.out, rfl, (HR4.out.put (Nat.le_refl _) 0 _).put (Nat.le_refl _) 1 _⟩)
     · have HE : Hid (RES = .error (n, e)) := by show _ = _; rw [HE2.out, hx]
       exact ⟨rfl, Or.inr ⟨_, _, HE.out, rfl, HR3.out.g.trans hr⟩⟩
   · have HR3 := hid (HR2.out.below g3)
     have HE : Hid (RES = .ok (([], one), rest s q) ∧ s.size - (rest s q).length = q) := by
       refine ⟨?_, by rw [rest_len]; omega⟩
       rw [HE1.out, if_neg (by rw [g1]; decide)]
     have HX3 : Hid (w3.heap[W.heap.size]? = some (.cells #[.string ⟨#[]⟩, .string ⟨#[]⟩] 82 (0, 0))) := by
       show _ = _
       rw [g3.block _ (Go.lt_of_block HX2.out)]; exact HX2.out
     obtain ⟨x0, x1⟩ := row2 HX3.out
     have f0 := Lib.frozen_of_heap HX3.out 0
     have f1 := Lib.frozen_of_heap HX3.out 1
     clear g1 g3 cT HE1 HX2
     go_wp2_with fail
     exact bodyPost_ret (v := nameV ([], one)) (results_cell_row rfl _ _ W.heap.size 82 _ (0, 0) _ rfl (row_set (row_set HX3.out 0 _) 1 _) Tryz.underlying82 rfl infoName) rfl (Or.inl ⟨_, _, HE.out.1, rfl, by rw [HE.out.2]; exact (HR3.out.put (Nat.le_refl _) 0 _).put (Nat.le_refl _) 1 _⟩)
 · have HE : Hid (RES = .error (n, e)) := by show _ = _; rw [HE0.out, hx]
   exact ⟨rfl, Or.inr ⟨_, _, HE.out, rfl, HR1.out.g.trans hr⟩⟩
end Go.Proofs.YteejphiklpnjhaaGreatDoor
namespace Go.Proofs.YteejphiklpnjhaaGreatDoor
set_option maxRecDepth 100000
set_option maxHeartbeats 16000000
open Go.RowKit Go.Maps
open Go.Lib (hid)
namespace X
def lookG {β : Type} : List (List UInt8 × β) → List UInt8 → Option β
 | [], _ => none
 | (a, v) :: r, p => if a = p then some v else lookG r p
theorem lookG_look : ∀ (k : K) (p : List UInt8), lookG k p = look k p
 | [], _ => rfl
 | (a, v) :: r, p => by
   unfold lookG look
   rw [lookG_look r p]
def mapD {β : Type} (f : β → DataW Unit) : List (List UInt8 × β) → DataW Unit
 | [] => .map []
 | (a, v) :: r => (mapD f r).put (.string a) (f v)
theorem mapD_isMap {β : Type} (f : β → DataW Unit) : ∀ l, IsMap (mapD f l)
 | [] => ⟨[], rfl⟩
 | _ :: r => (mapD_isMap f r).put _ _
theorem isKey (a : List UInt8) : WideAt.IsKeyLit (.string a) := by first | trivial | exact ⟨_, rfl⟩ | simp
theorem mapD_at {β : Type} (f : β → DataW Unit) (z : DataW Unit) (p : List UInt8) : ∀ l, (mapD f l).atKey (.string p) z = (match lookG l p with | some v => f v | none => z)
 | [] => rfl
 | (a, v) :: r => by
   unfold mapD lookG
   by_cases h : a = p
   · subst h; rw [if_pos rfl, atKey_put_same (mapD_isMap f r) (isKey a)]
   · rw [if_neg h, atKey_put_other (by simp; exact fun e => h e.symm), mapD_at f z p r]
theorem mapD_has {β : Type} (f : β → DataW Unit) (p : List UInt8) : ∀ l, has (mapD f l) (.string p) = (lookG l p).isSome
 | [] => rfl
 | (a, v) :: r => by
   unfold mapD lookG
   by_cases h : a = p
   · subst h; rw [if_pos rfl, has_put_same (mapD_isMap f r) (isKey a)]; rfl
   · rw [if_neg h, has_put_other (by simp; exact fun e => h e.symm), mapD_has f p r]
def ents : List (List UInt8 × Int) := [([97, 112, 111, 115], 39), ([113, 117, 111, 116], 34), ([97, 109, 112], 38), ([103, 116], 62), ([108, 116], 60)]
theorem ents_look (l : List UInt8) : lookG ents l = entity l := by
 unfold entity
 by_cases h1 : l = [108, 116]
 · subst h1; rfl
 by_cases h2 : l = [103, 116]
 · subst h2; rfl
 by_cases h3 : l = [97, 109, 112]
 · subst h3; rfl
 by_cases h4 : l = [113, 117, 111, 116]
 · subst h4; rfl
 by_cases h5 : l = [97, 112, 111, 115]
 · subst h5; rfl
 rw [if_neg h1, if_neg h2, if_neg h3, if_neg h4, if_neg h5]
 simp only [ents, lookG]
 rw [if_neg (Ne.symm h5), if_neg (Ne.symm h4), if_neg (Ne.symm h3), if_neg (Ne.symm h2), if_neg (Ne.symm h1)]
end X
theorem lawS : Keyed Tryz.prog 9 := string_keyed Tryz.underlying9
theorem zeroRune (w : World) : (zeroValue 21).run Tryz.prog w = .ok (.int .i32 0) w := by kernel_rfl
theorem zeroStr (w : World) : (zeroValue 9).run Tryz.prog w = .ok (.string ⟨#[]⟩) w := by kernel_rfl
theorem map_below {P : Program} {k : TypeId} {R : Value → Option (DataW Unit × List MemPlace)} {b n : Nat} {D : DataW Unit} {w w' : World} (h : w.ownsMap P k R b n D) (hb : Below w.heap.size w w') : w'.ownsMap P k R b n D :=
 h.kept (row := none) ⟨hb.os, hb.tape, hb.output, hb.size, fun k hk _ => hb.block k hk⟩ (by simp)
theorem keyS {s : ByteArray} (hs : s.size ≤ 1000000000000) : keyOf Tryz.prog 9 (.string s) = some (.string s.data.toList) := Go.WideMaps.keyOf_string_mk Tryz.underlying9 (by unfold maxLen; omega)
def runeD (c : Int) : DataW Unit := .lit (.int .i32 c)
theorem map_rune {b n : Nat} {D : DataW Unit} {w : World} (h : w.ownsMap Tryz.prog 9 (plainElem Tryz.prog 21) b n D) (hn : n < maxLen) (s : ByteArray) (hs : s.size ≤ 1000000000000) (c : Int) (hc : (Lit.int .i32 c).wf = true) :
  ∃ w', (Instr.mapUpdate 191 (.map (some b)) (.string s) (.int .i32 c)).run Tryz.prog w = .ok () w' ∧ w'.ownsMap Tryz.prog 9 (plainElem Tryz.prog 21) b (n + 1) (D.put (.string s.data.toList) (runeD c)) ∧ w.mapTurned w' b :=
 h.store lawS Tryz.underlying191 hn (keyS hs) (plainElem_int (H := Unit) Tryz.underlying21 hc)
theorem entity_any (s : ByteArray) (hs : s.size ≤ 1000000000000) (W : World) :
  Calls Tryz.prog 86 #[.string s] W fun en W' => en = .returned (.tuple #[.int .i32 ((X.entity s.data.toList).getD 0), .bool (X.entity s.data.toList).isSome]) ∧ Below W.heap.size W W' := by
 have hmm := @run_makeMap Tryz.prog
 have m0 := World.ownsMap_made (H := Unit) W Tryz.prog 9 (plainElem Tryz.prog 21)
 obtain ⟨w1, u1, m1, t1⟩ := map_rune m0 (by unfold maxLen; omega) ⟨#[108, 116]⟩ (by decide) 60 (by decide)
 obtain ⟨w2, u2, m2, t2⟩ := map_rune m1 (by unfold maxLen; omega) ⟨#[103, 116]⟩ (by decide) 62 (by decide)
 obtain ⟨w3, u3, m3, t3⟩ := map_rune m2 (by unfold maxLen; omega) ⟨#[97, 109, 112]⟩ (by decide) 38 (by decide)
 obtain ⟨w4, u4, m4, t4⟩ := map_rune m3 (by unfold maxLen; omega) ⟨#[113, 117, 111, 116]⟩ (by decide) 34 (by decide)
 obtain ⟨w5, u5, m5, t5⟩ := map_rune m4 (by unfold maxLen; omega) ⟨#[97, 112, 111, 115]⟩ (by decide) 39 (by decide)
 have hD : w5.ownsMap Tryz.prog 9 (plainElem Tryz.prog 21) W.heap.size 5 (X.mapD runeD X.ents) := m5
 obtain ⟨v, ps, hl, hv⟩ := hD.look_ok lawS Tryz.underlying191 (zeroRune w5) (plainElem_int (H := Unit) Tryz.underlying21 (q := .i32) (a := 0) (by decide)) (keyS hs)
 rw [X.mapD_has, X.ents_look] at hl
 rw [X.mapD_at, X.ents_look] at hv
 have hval : v = .int .i32 ((X.entity s.data.toList).getD 0) := by
  obtain ⟨c, rfl, hc, hwc⟩ := plainElem_int_inv Tryz.underlying21 hv
  simp only [Prod.mk.injEq] at hc
  have hc1 := hc.1
  revert hc1
  cases X.entity s.data.toList with
  | none => intro h; simp only [DataW.lit.injEq, Lit.int.injEq] at h; rw [← h.2]; rfl
  | some x => intro h; simp only [runeD, DataW.lit.injEq, Lit.int.injEq] at h; rw [← h.2]; rfl
 subst hval
 obtain ⟨is, his⟩ : ∃ is, (X.entity s.data.toList).isSome = is := ⟨_, rfl⟩
 obtain ⟨c, hc⟩ : ∃ c, (X.entity s.data.toList).getD 0 = c := ⟨_, rfl⟩
 rw [his, hc] at hl ⊢
 have HB : Hid (Below W.heap.size W w5) := by
  show Below _ _ _
  have b0 : Below W.heap.size W (W.alloc (.map #[] 0)) := (Below.refl _ W).alloc (Nat.le_refl _) _
  have hs0 : W.heap.size ≤ (W.alloc (.map #[] 0)).heap.size := b0.size
  have g := (((t1.grown.trans t2.grown).trans t3.grown).trans t4.grown).trans t5.grown
  exact b0.grown g hs0 (fun q hq => by simp at hq; omega)
 clear m0 m1 m2 m3 m4 m5 t1 t2 t3 t4 t5 hD hv his hc hs
 go_enter Tryz.func86, Tryz.ntmps86
 go_wp2_with fail
 go_ret2
 exact ⟨rfl, HB.out⟩
end Go.Proofs.YteejphiklpnjhaaGreatDoor
