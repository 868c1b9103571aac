/- The walk of the law WordBack. -/
import Derived.Test.YtkahibnanhhdeaaDoorWWorks
import Derived.Test.YtkahibnanhhdeaaDoorWPlainO
namespace Go.Proofs.YtkahibnanhhdeaaDoor
open Go.RowKit
open Go.Lib (hid itoa)

theorem W.quoteIn_ge : ∀ (l : List UInt8), l.length ≤ (W.quoteIn l).length
  | [] => by simp [W.quoteIn]
  | c :: l => by
    have := W.quoteIn_ge l
    have := (W.byteQ_length c).1
    simp only [W.quoteIn, List.length_append, List.length_cons]
    omega
theorem W.bytes_eq (l : List UInt8) (s : ByteArray) (h : l = s.data.toList) : (⟨l.toArray⟩ : ByteArray) = s := by subst h; rfl

set_option maxRecDepth 100000 in
set_option maxHeartbeats 4000000 in
theorem back_walk (n : Int) (s t : ByteArray) (w : World) (hn : -9223372036854775808 ≤ n ∧ n ≤ 9223372036854775807) (_ : s.size ≤ 140737488351232) (_ : t.size ≤ 140737488351232) (hA : All w) (hc : s.size + t.size ≤ 1048576) :
    Calls Tryd.prog 8 #[.int .i64 n, .string s, .string t] w fun e w' => e = .returned (.bool true) ∧ Below w.heap.size w w' := by
  have c0 := works_any w hA
  obtain ⟨N, hN⟩ : ∃ N : ByteArray, (⟨(itoa n).toArray⟩ : ByteArray) = N := ⟨_, rfl⟩
  have hNl : N.data.toList = itoa n := by rw [← hN]
  have hNs : N.size ≤ 281474976710656 := by
    have := Go.Lib.itoa_length_le n hn.1 hn.2
    have e : N.size = (itoa n).length := by rw [← hNl]; rfl
    omega
  have c1 : ∀ X, All X → Calls Tryd.prog 23 #[.int .i64 n] X fun e w' => e = .returned (.string N) ∧ Below X.heap.size X w' := fun X h => by
    have := number_any n X hn.1 hn.2 h.nums.pows
    rwa [hN] at this
  have c2 : ∀ X, All X → Calls Tryd.prog 21 #[.string N] X fun e w' => e = .returned (.tuple #[.int .i64 n, .bool true]) ∧ Below X.heap.size X w' := fun X h => by
    have := parse_all N X hNs h
    rw [hNl, W.parse_itoa n hn] at this
    exact this
  obtain ⟨Q, hQ⟩ : ∃ Q : ByteArray, (⟨(W.quoteL s.data.toList).toArray⟩ : ByteArray) = Q := ⟨_, rfl⟩
  have hQl : Q.data.toList = W.quoteL s.data.toList := by rw [← hQ]
  have hQs : Q.size ≤ 17592186044416 := by
    have e : Q.size = (W.quoteL s.data.toList).length := by rw [← hQl]; rfl
    rw [W.quoteL_length] at e
    have := W.quoteIn_length s.data.toList
    have e2 : s.data.toList.length = s.size := rfl
    omega
  have c3 : ∀ X, Calls Tryd.prog 27 #[.string s] X fun e w' => e = .returned (.string Q) ∧ Below X.heap.size X w' := fun X => by
    have := quote_any s X (by omega)
    rwa [hQ] at this
  have c4 : ∀ X, All X → Calls Tryd.prog 25 #[.string Q] X fun e w' => e = .returned (.tuple #[.string s, .bool true]) ∧ Below X.heap.size X w' := fun X h => by
    have := unquote_any Q X hQs h.nums.errs
    rw [hQl, W.unqL_yes] at this
    exact this
  obtain ⟨⟨c, ok⟩, hP⟩ : ∃ P, W.parseW t.data.toList = P := ⟨_, rfl⟩
  have c5 : ∀ X, All X → Calls Tryd.prog 21 #[.string t] X fun e w' => e = .returned (.tuple #[.int .i64 c, .bool ok]) ∧ Below X.heap.size X w' := fun X h => by
    have := parse_all t X (by omega) h
    rwa [hP] at this
  have c6 : ok = true → ∀ X, All X → Calls Tryd.prog 23 #[.int .i64 c] X fun e w' => e = .returned (.string t) ∧ Below X.heap.size X w' := fun h0 X h => by
    subst h0
    obtain ⟨e, hf⟩ := W.parse_true _ _ hP
    have := number_any c X hf.1 hf.2 h.nums.pows
    rwa [W.bytes_eq _ t e] at this
  obtain ⟨⟨d, is⟩, hU⟩ : ∃ P, W.unqL t.data.toList = P := ⟨_, rfl⟩
  obtain ⟨D, hD⟩ : ∃ D : ByteArray, (⟨d.toArray⟩ : ByteArray) = D := ⟨_, rfl⟩
  have c7 : ∀ X, All X → Calls Tryd.prog 25 #[.string t] X fun e w' => e = .returned (.tuple #[.string D, .bool is]) ∧ Below X.heap.size X w' := fun X h => by
    have := unquote_any t X (by omega) h.nums.errs
    rw [hU] at this
    simp only [hD] at this
    exact this
  have c8 : is = true → ∀ X, Calls Tryd.prog 27 #[.string D] X fun e w' => e = .returned (.string t) ∧ Below X.heap.size X w' := fun h0 X => by
    subst h0
    have e := W.unq_true _ _ hU
    have hDl : D.data.toList = d := by rw [← hD]
    have hs : D.size ≤ 17592186044416 := by
      have e1 := congrArg List.length e
      rw [W.quoteL_length] at e1
      have := W.quoteIn_ge d
      have e2 : t.data.toList.length = t.size := rfl
      have e3 : D.size = d.length := by rw [← hDl]; rfl
      omega
    have := quote_any D X hs
    rwa [hDl, W.bytes_eq _ t e] at this
  clear hN hNl hNs hQ hQl hQs hP hU hD hc
  go_enter Tryd.func8, Tryd.ntmps8
  go_wp2_with fail
  refine c0.mono ?_
  rintro e w0 ⟨rfl, b0⟩
  have a0 := hA.keep b0
  go_wp2_with fail
  refine (c1 _ a0).mono ?_
  rintro e w1 ⟨rfl, b1⟩
  have b01 := b0.trans (b1.mono b0.size)
  have a1 := hA.keep b01
  clear b1 a0 b0
  go_wp2_with fail
  refine (c2 _ a1).mono ?_
  rintro e w2 ⟨rfl, b2⟩
  have b02 := b01.trans (b2.mono b01.size)
  clear b2 a1 b01
  go_wp2_with fail
  refine (c3 _).mono ?_
  rintro e w3 ⟨rfl, b3⟩
  have b03 := b02.trans (b3.mono b02.size)
  have a3 := hA.keep b03
  clear b3 b02
  go_wp2_with fail
  refine (c4 _ a3).mono ?_
  rintro e w4 ⟨rfl, b4⟩
  have b04 := b03.trans (b4.mono b03.size)
  have a4 := hA.keep b04
  clear b4 b03 a3
  go_wp2_with fail
  refine (c5 _ a4).mono ?_
  rintro e w5 ⟨rfl, b5⟩
  have b05 := b04.trans (b5.mono b04.size)
  have a5 := hA.keep b05
  clear b5 b04 a4
  go_wp2_with fail
  refine (c7 _ a5).mono ?_
  rintro e w6 ⟨rfl, b6⟩
  have b06 := b05.trans (b6.mono b05.size)
  have a6 := hA.keep b06
  clear b6 b05 a5
  cases ok
  · cases is
    · go_wp2_with fail
      go_ret
      exact ⟨rfl, b06⟩
    · go_wp2_with fail
      refine (c8 (by trivial) _).mono ?_
      rintro e w7 ⟨rfl, b7⟩
      have b07 := b06.trans (b7.mono b06.size)
      clear b7 b06
      go_wp2_with fail
      go_ret
      exact ⟨by simp, b07⟩
  · go_wp2_with fail
    refine (c6 (by trivial) _ a6).mono ?_
    rintro e w7 ⟨rfl, b7⟩
    have b07 := b06.trans (b7.mono b06.size)
    clear b7 b06
    cases is
    · go_wp2_with fail
      go_ret
      exact ⟨by simp, b07⟩
    · go_wp2_with fail
      refine (c8 (by trivial) _).mono ?_
      rintro e w8 ⟨rfl, b8⟩
      have b08 := b07.trans (b8.mono b07.size)
      clear b8 b07
      go_wp2_with fail
      go_ret
      exact ⟨by simp, b08⟩
end Go.Proofs.YtkahibnanhhdeaaDoor
