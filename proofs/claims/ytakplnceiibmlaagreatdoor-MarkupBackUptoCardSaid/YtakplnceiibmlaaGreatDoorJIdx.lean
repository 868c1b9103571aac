/- The library's IndexRune at a text of ASCII bytes and any rune beyond; IndexAny and ContainsAny at short texts. -/
import Derived.Test.YtakplnceiibmlaaGreatDoorJChr
import Derived.Test.YtakplnceiibmlaaGreatDoorShelfI
import Derived.Laws.RangeAny
import Derived.Lib.OthersKept
import Derived.Lib.IndexLaws
import Derived.Deep.QuietTactic
import Derived.BigQuiet
import Derived.Deep.LoopGhost
import Derived.WalkMore
namespace Go.Proofs.YtakplnceiibmlaaGreatDoor
open Go.RowKit
open Go.Lib (hid)
/-- a text of ASCII bytes alone -/
def Asc (s : ByteArray) : Prop := ∀ (j : Nat) b, s.data.toList[j]? = some b → b.toNat < 128
theorem Asc.at {s : ByteArray} (h : Asc s) {i : Nat} (hi : i < s.size) : s[i].toNat < 128 := h i _ (Lib.data_getElem? s i hi)
theorem index_high {s : ByteArray} (h : Asc s) {l : List UInt8} (hl : ∃ k, l = s.data.toList.drop k) {c : UInt8} (hc : 128 ≤ c.toNat) : Lib.indexByte l c = -1 := by
  have hge := Lib.indexByte_ge l c
  by_cases h0 : Lib.indexByte l c < 0
  · omega
  · obtain ⟨o, ho⟩ := Int.eq_ofNat_of_zero_le (Int.not_lt.1 h0)
    have h1 := (Lib.indexByte_some ho).1
    obtain ⟨k, rfl⟩ := hl
    rw [List.getElem?_drop] at h1
    have := h _ _ h1
    omega
theorem Below.iter (w : World) (s : ByteArray) (i : Nat) : Below w.heap.size w (w.iter s i) := (Below.refl _ w).alloc (Nat.le_refl _) _
set_option maxRecDepth 100000 in
set_option maxHeartbeats 2000000 in
theorem indexRune_high (s : ByteArray) (hA : Asc s) (_hs : s.size ≤ 1000) (r : Int) (h0 : 128 ≤ r) (h1 : r ≤ 2147483647) (w : World) :
    Calls Tryz.prog 107 #[.string s, .int .i32 r] w fun e w' => e = .returned (.int .i64 (-1)) ∧ Below w.heap.size w w' := by
  have HA := hid hA
  clear hA
  have t0 : decide ((0 : Int) ≤ r) = true := by simp; omega
  have t1 : decide (r < 128) = false := by simp; omega
  by_cases he : r = 65533
  · subst he
    clear t0 t1 h0 h1
    go_enter Tryz.func107, Tryz.ntmps107
    go_wp2_with fail
    go_loopg [] s.size (fun g wx => ∃ i : Nat, i + g = s.size ∧ wx = w.iter s i)
    case atStart => exact ⟨0, by omega, rfl⟩
    case round =>
      obtain ⟨i, hig, rfl⟩ := hrel
      cases gk with
      | zero =>
        obtain rfl : i = s.size := by omega
        have hnx := run_next_end (P := Tryz.prog) w s s.size
        go_wp2_with fail
        go_ret
        exact ⟨rfl, Below.iter w s _⟩
      | succ g =>
        have hi : i < s.size := by omega
        have hx := HA.out.at hi
        have hnx := fun ty => run_next_ascii (P := Tryz.prog) w s i ty hi hx
        have t2 : ((s[i].toNat : Int) == 65533) = false := beq_eq_false_iff_ne.2 (by omega)
        clear hx
        go_wp2_with fail
        go_roundg g
        case measure => omega
        case rel => exact ⟨i + 1, by omega, rfl⟩
  · have t2 : (r == 65533) = false := beq_eq_false_iff_ne.2 he
    have hv := validRune_ok r
    cases hok : W.charOk r
    · rw [hok] at hv
      clear hok he
      go_enter Tryz.func107, Tryz.ntmps107
      go_wp2_with fail
      refine (Tryz.utf8_ValidRune _ _).mono ?_
      rintro e w' ⟨rfl, hw'⟩
      rw [hw']
      rw [hv]
      go_wp2_with fail
      go_ret
      exact ⟨rfl, Below.refl _ _⟩
    · rw [hok] at hv
      obtain ⟨b, l, hl, hb, hbs, l1, l3, hb8⟩ := enc_last h0 hok
      have HB := hid hb8
      have e1 : (b.size : Int) - 1 = (l : Int) := by omega
      have e3 : (l : Int) + 1 = ((l + 1 : Nat) : Int) := by omega
      have L0 : (0 : Int) ≤ (l : Int) := by omega
      have L1 : (l : Int) < (b.size : Int) := by omega
      clear hok he hb8 hbs
      go_enter Tryz.func107, Tryz.ntmps107
      go_wp2_with fail
      refine (Tryz.utf8_ValidRune _ _).mono ?_
      rintro e w' ⟨rfl, hw'⟩
      rw [hw']
      rw [hv]
      go_wp2_with fail
      go_step3
      go_wp2_with fail
      go_loop [9] (fun v => v = .int .i64 l) (fun _ => 1)
      case atStart => exact rfl
      case round =>
        obtain rfl := hrel
        by_cases hls : l < s.size
        · have t3 : decide ((l : Int) < (s.size : Int)) = true := by simp; omega
          have L2 : (l : Int) < (s.size : Int) := by omega
          obtain ⟨m, hm⟩ : ∃ m, l + 1 = m := ⟨_, rfl⟩
          have L3 : (l : Int) + 1 = (m : Int) := by omega
          have L4 : IntKind.i64.wrap (m : Int) = (m : Int) := by rw [IntKind.wrap_i64]; omega
          have L5 : (0 : Int) ≤ (m : Int) := by omega
          have L6 : (m : Int) ≤ (s.size : Int) := by omega
          have t4 : ((s[l].toNat : Int) != (b[l].toNat : Int)) = true := by
            rw [bne_iff_ne]
            have := HA.out.at hls
            have := HB.out
            omega
          have HX := hid (index_high (l := (s.extract m s.size).data.toList) HA.out ⟨m, Lib.extract_to_end s m⟩ (c := b[l]) HB.out)
          have cI := fun W => Tryz.strings_IndexByte (s.extract m s.size) (b[l].toNat : Int) W
          have e4 : ((b[l].toNat : Int)).toNat.toUInt8 = b[l] := by simp
          rw [e4, HX.out] at cI
          clear HX e4 hm e3
          go_wp2_with fail
          go_step3
          go_wp2_with fail
          go_quiet (fail)
          go_wp2_with fail
          go_quiet (first | (go_at_call 72; exact (cI _).mono (fun _ _ h => ⟨h.1, _, h.2⟩)))
          go_wp2_with fail
          (repeat (first | rw [Exit.noGoto_ret] | simp only [Exit.inBlock]))
          go_big_unhide
          (repeat (first | rw [Exit.noGoto_ret] | simp only [Exit.inBlock, Exit.then]))
          go_ret
          exact ⟨rfl, below_drewN (Below.refl _ w) _⟩
        · have t3 : decide ((l : Int) < (s.size : Int)) = false := by simp; omega
          go_wp2_with fail
          go_ret
          exact ⟨rfl, Below.refl _ _⟩
/-- which bytes of a set stand in a text: no place, or one -/
def Any4 (s cs : ByteArray) (v : Int) : Prop := v = -1 ∨ (∃ (i : Nat) (h : i < s.size), v = (i : Int) ∧ s[i] ∈ cs.data.toList)
set_option maxRecDepth 100000 in
set_option maxHeartbeats 2000000 in
theorem indexAny_short (s cs : ByteArray) (hA : Asc cs) (h2 : 2 ≤ cs.size) (hc : cs.size ≤ 1000) (h8 : s.size ≤ 8) (w : World) :
    Calls Tryz.prog 110 #[.string s, .string cs] w fun e w' => (∃ v : Int, e = .returned (.int .i64 v) ∧ Any4 s cs v) ∧ Below w.heap.size w w' := by
  have hemp : cs.toList.isEmpty = false := by
    rw [Lib.toList_data]
    cases h : cs.data.toList with
    | nil => have := Lib.size_eq cs; rw [h, List.length_nil] at this; omega
    | cons _ _ => rfl
  have hn1 : ((cs.size : Int) == 1) = false := beq_eq_false_iff_ne.2 (by omega)
  have h8z : decide ((8 : Int) < (s.size : Int)) = false := decide_eq_false (by omega)
  have HA := hid hA
  clear hA
  go_enter Tryz.func110, Tryz.ntmps110
  go_wp2_with fail
  refine (Tryz.strings_shouldUseASCIISet _ _).mono ?_
  rintro e w' ⟨rfl, hw'⟩
  rw [hw']
  rw [h8z]
  go_wp2_with fail
  go_loopg [] s.size (fun g wx => ∃ i : Nat, s.size - i ≤ g ∧ Hid (Below w.heap.size w wx ∧ wx.heap[w.heap.size]? = some (.stringIter s i)))
  case atStart => exact ⟨0, by omega, hid ⟨Below.iter w s 0, World.iter_heap w s 0⟩⟩
  case round =>
    obtain ⟨i, hig, hI⟩ := hrel
    have hk := hI.out.2
    have HB := hid hI.out.1
    have hlt := Go.lt_of_block hk
    clear hI
    by_cases hi : i < s.size
    · have hnx := fun ty => Lib.run_next_any_at (P := Tryz.prog) wr w.heap.size s i ty hk hi
      have hk2 := fun p => Lib.iterAt_heap wr w.heap.size s i p hk
      have hb2 := fun p => Lib.below_iterAt HB.out (Nat.le_refl _) s p
      have hsz := fun p => Lib.iterAt_size wr w.heap.size s p
      by_cases ha : s[i].toNat < 128
      · rw [decode_ascii s i hi ha] at hnx
        have K2 := hid (hk2 (i + 1))
        have B2 := hid (hb2 (i + 1))
        have hcon := Lib.contains_iff_indexByte cs.data.toList s[i]
        have hback : ((s[i].toNat : Int)).toNat.toUInt8 = s[i] := by simp
        have cR := fun W => Tryz.strings_IndexRune_ascii cs (s[i].toNat : Int) W (by omega) (by omega)
        rw [hback] at cR
        clear hk2 hb2 hsz hk hback
        simp only at hnx
        generalize wr.iterAt w.heap.size s (i + 1) = w2 at *
        cases hin : cs.data.toList.contains s[i]
        · rw [hin] at hcon
          have hlt0 : decide ((0 : Int) ≤ Lib.indexByte cs.data.toList s[i]) = false := hcon.symm
          clear hcon hin
          go_wp2_with fail
          refine (cR _).mono ?_
          rintro e w' ⟨rfl, hw'⟩
          rw [hw']
          go_wp2_with fail
          go_roundg (s.size - (i + 1))
          case measure => omega
          case rel => exact ⟨i + 1, Nat.le_refl _, hid ⟨B2.out, K2.out⟩⟩
        · rw [hin] at hcon
          have hlt0 : decide ((0 : Int) ≤ Lib.indexByte cs.data.toList s[i]) = true := hcon.symm
          have HM : Hid (s[i] ∈ cs.data.toList) := by show s[i] ∈ _; simpa using hin
          clear hcon hin
          go_wp2_with fail
          refine (cR _).mono ?_
          rintro e w' ⟨rfl, hw'⟩
          rw [hw']
          go_wp2_with fail
          go_ret
          exact ⟨⟨_, rfl, Or.inr ⟨i, hi, rfl, HM.out⟩⟩, B2.out⟩
      · have hh := decode_high s i hi (by omega)
        have hle := decode_le s i
        obtain ⟨d, hd⟩ : ∃ d, Utf8.decode s i = d := ⟨_, rfl⟩
        rw [hd] at hnx hh hle
        obtain ⟨c, k⟩ := d
        simp only at hnx hh hle
        obtain ⟨c128, k1⟩ := hh
        have K2 := hid (hk2 (i + k))
        have B2 := hid (hb2 (i + k))
        have S2 := hid (hsz (i + k))
        clear hk2 hb2 hsz hk hd
        generalize wr.iterAt w.heap.size s (i + k) = w2 at *
        have cR := fun W => indexRune_high cs HA.out hc (c : Int) (by omega) (by omega) W
        go_wp2_with fail
        refine (cR _).mono ?_
        rintro e w' ⟨rfl, hb⟩
        have K3 : Hid (w'.heap[w.heap.size]? = some (.stringIter s (i + k))) := by
          show _ = _
          rw [hb.block _ (by rw [S2.out]; exact hlt)]; exact K2.out
        have B3 := hid (B2.out.trans (hb.mono (by rw [S2.out]; omega)))
        clear hb
        go_wp2_with fail
        go_roundg (s.size - (i + k))
        case measure => omega
        case rel => exact ⟨i + k, Nat.le_refl _, hid ⟨B3.out, K3.out⟩⟩
    · have hnx := fun ty => Lib.run_next_end_at (P := Tryz.prog) wr w.heap.size s i ty hk hi
      clear hk
      go_wp2_with fail
      go_ret
      exact ⟨⟨-1, rfl, Or.inl rfl⟩, HB.out⟩
set_option maxRecDepth 100000 in
theorem containsAny_short (s cs : ByteArray) (hA : Asc cs) (h2 : 2 ≤ cs.size) (hc : cs.size ≤ 1000) (h8 : s.size ≤ 8) (w : World) :
    Calls Tryz.prog 98 #[.string s, .string cs] w fun e w' => (∃ v : Bool, e = .returned (.bool v) ∧ (v = true → ∃ (i : Nat) (h : i < s.size), s[i] ∈ cs.data.toList)) ∧ Below w.heap.size w w' := by
  have cI := indexAny_short s cs hA h2 hc h8 w
  clear hA
  go_enter Tryz.func98, Tryz.ntmps98
  go_wp2_with fail
  refine cI.mono ?_
  rintro e w' ⟨⟨v, rfl, hv⟩, hb⟩
  have HV := hid hv
  have HB := hid hb
  clear hv hb
  go_wp2_with fail
  go_ret
  refine ⟨⟨_, rfl, fun ht => ?_⟩, HB.out⟩
  rcases HV.out with h | ⟨i, hi, -, hm⟩
  · subst h; simp at ht
  · exact ⟨i, hi, hm⟩
end Go.Proofs.YtakplnceiibmlaaGreatDoor
