/- The walk of the reference's Pack. -/
import Derived.Test.YtfadnhihcobclaaDoorKText
import Derived.Test.YtfadnhihcobclaaDoorKPack
import Derived.Test.YtfadnhihcobclaaDoorKParts
namespace Go.Proofs.YtfadnhihcobclaaDoor
open Go.RowKit
open Go.Lib (hid)
open K
theorem wpList_push2 {ops : Array Oper} {rest : List Oper} {o : Oper} {a : Act} {Q : Exit → Act → World → Prop} {w : World} (hgd : o.guard = none) (s x : Operand)
    (ho : o.op = .call { callee := .builtin .append, args := #[s, x], argTypes := #[63, 63] }) (B : Nat) (l : List UInt8) (v : Value) (g : Nat) (hs : a.eval s = v) (hR : Row B l v w) (hx : a.eval x = .slice (some ⟨g, 0, none⟩) 2 2)
    (hg : w.heap[g]? = some (.cells #[.int .u8 0, .int .u8 0] 5 (0, 0))) (hl : l.length ≤ 100000000000000) (hB : B ≤ w.heap.size) (h : ∀ v' w', Row B (l ++ [0, 0]) v' w' → w.grownBy w' v.ownBlock → wpList Tryd.prog ops Q rest (a.put o.dst v') w') : wpList Tryd.prog ops Q (o :: rest) a w := by
  obtain ⟨i0, hi, hz0, hz1, hz2⟩ := info_parts infoByte
  refine wpList_append_own _ hgd s x 63 ho B 5 i0 (.int .u8 0) 1 1 Tryd.underlying63 hi hz0 hz1 hz2 rfl (by decide) v l.length (Lib.byteCells l) hs hR ⟨g, 0, none⟩ 2 2 [.int .u8 0, .int .u8 0] hx rfl (World.news_of_block (cs := #[.int .u8 0, .int .u8 0]) (t := 5) (fr := (0, 0)) hg) (by intro u hu; simp at hu; subst hu; rfl) (by unfold maxLen; omega) (by omega) hB ?_
  intro v' w' h1 h2 _
  refine h v' w' ?_ h2
  unfold Row
  rw [List.length_append, Lib.byteCells_append]
  exact h1
theorem escL_snoc : ∀ (l : List UInt8) (c : UInt8), escL (l ++ [c]) = escL l ++ (if c = 0 then [0, 255] else [c])
  | [], c => by
    show escL [c] = _
    unfold escL
    by_cases h : c = 0
    · rw [if_pos h, if_pos h]; rfl
    · rw [if_neg h, if_neg h]; rfl
  | d :: r, c => by
    rw [List.cons_append]
    unfold escL
    by_cases h : d = 0
    · rw [if_pos h, if_pos h, escL_snoc r c]; rfl
    · rw [if_neg h, if_neg h, escL_snoc r c]; rfl

set_option maxRecDepth 100000 in
set_option maxHeartbeats 8000000 in
theorem refPack_any (ps : List Part) (sv : Value) (w : World) (hin : PIn w ps sv) (hlen : ps.length ≤ 1000000)
    (hp : ∀ p ∈ ps, p.say.size ≤ 2000000 ∧ -9223372036854775808 ≤ p.n ∧ p.n ≤ 9223372036854775807) :
    Calls Tryd.prog 28 #[sv] w fun e w' => e = .returned (.tuple #[.string ⟨(pack ps).1.toArray⟩, .int .i64 (pack ps).2]) ∧ Below w.heap.size w w' := by
  obtain ⟨R, hR⟩ : ∃ R, pack ps = R := ⟨_, rfl⟩
  rw [hR]
  obtain ⟨n, hn⟩ : ∃ n, ps.length = n := ⟨_, rfl⟩
  obtain ⟨xa, c, hsv⟩ := hin.shape
  rw [hn] at hsv hlen
  subst hsv
  have HIN := hid hin
  have HN := hid hn
  have HP := hid hp
  clear hin hp
  by_cases h16 : 16 < n
  · have t0 : decide ((16 : Int) < (n : Int)) = true := by simp; omega
    have HR : Hid (R = ([], 3)) := by show _ = _; rw [← hR]; unfold pack; rw [if_pos (by omega)]
    clear hR hn
    go_enter Tryd.func28, Tryd.ntmps28
    go_wp2_with fail
    go_ret2
    exact ⟨ret_lc (a := ([], 3)) HR.out.symm, Below.refl _ _⟩
  have t0 : decide ((16 : Int) < (n : Int)) = false := by simp; omega
  have HRES : Hid (R = if anyBad ps then ([], 1) else (packL ps, 0)) := by
    show _ = _
    rw [← hR]; unfold pack; rw [if_neg (by omega)]
  clear hR hn
  go_enter Tryd.func28, Tryd.ntmps28
  go_wp2_with fail
  go_loopw [4, 5] (fun b i wr => ∃ (k : Nat) (l : List UInt8), k ≤ n ∧ i = .int .i64 k ∧ Hid (Row w.heap.size l b wr) ∧ Hid (Below w.heap.size w wr) ∧ Hid (l = packL (ps.take k) ∧ anyBad (ps.take k) = false ∧ l.length ≤ k * 5000000)) (fun _ i _ => n - (intOf i).toNat)
  case atStart => exact ⟨0, [], by omega, rfl, Row.nil _ _, Below.refl _ _, by show _ ∧ _ ∧ _; exact ⟨rfl, rfl, by simp⟩⟩
  case round =>
    obtain ⟨k, l, hk, rfl, hr, hb, hI⟩ := hrel
    clear t0
    by_cases hlt : k < n
    · have hl : decide ((k : Int) < (n : Int)) = true := by simp; omega
      have hkp : k < ps.length := by have := HN.out; omega
      obtain ⟨b, o, _, hsv, hbl, d0, d1, d2⟩ := HIN.out.cells hkp
      rw [HN.out] at hsv
      simp only [Value.slice.injEq, true_and] at hsv
      obtain ⟨rfl, rfl⟩ := hsv
      have hk0 : (0 : Int) ≤ (k : Int) := by omega
      have hk1 : (k : Int) < (n : Int) := by omega
      have hmem : ps[k] ∈ ps := List.getElem_mem _
      have hpk := HP.out _ hmem
      have htk : ps.take (k + 1) = ps.take k ++ [ps[k]] := by rw [List.take_succ_eq_append_getElem]
      have hdr : ps = ps.take k ++ ps[k] :: ps.drop (k + 1) := by
        conv => lhs; rw [← List.take_append_drop k ps, List.drop_eq_getElem_cons hkp]
      obtain ⟨p, hpe⟩ : ∃ p, ps[k] = p := ⟨_, rfl⟩
      rw [hpe] at d0 d1 d2 hpk htk hdr
      obtain ⟨hI1, hI2, hI3⟩ := hI.out
      have hbad : p.bad = true → Hid (R = ([], 1)) := by
        intro h
        show _ = _
        have e : anyBad ps = true := by rw [hdr, anyBad_append]; simp [anyBad, h]
        rw [HRES.out, e]; rfl
      have hgood : p.bad = false → p.bytes.length ≤ 5000000 → Hid (l ++ p.bytes = packL (ps.take (k + 1)) ∧ anyBad (ps.take (k + 1)) = false ∧ (l ++ p.bytes).length ≤ (k + 1) * 5000000) := by
        intro h hlen
        refine ⟨?_, ?_, ?_⟩
        · rw [htk, packL_append, ← hI1]; simp [packL]
        · rw [htk, anyBad_append, hI2]; simp [anyBad, h]
        · rw [List.length_append]; omega
      have hllen : l.length ≤ 5000000000000 := by omega
      clear hmem htk hdr hpe hI hI1 hI2 hI3 hkp HRES
      obtain ⟨tx, x, sy⟩ := p
      obtain ⟨hps, hx0, hx1⟩ := hpk
      simp only at d0 d1 d2 hps hx0 hx1
      have c0 := (hb.out.cell (p := ⟨b, _, none⟩) hbl).trans d0
      have c1 := (hb.out.cell (p := ⟨b, _, none⟩) hbl).trans d1
      have c2 := (hb.out.cell (p := ⟨b, _, none⟩) hbl).trans d2
      have hwr := hb.out.size
      cases tx
      · by_cases hs0 : sy.size = 0
        · have hsy : sy = ⟨#[]⟩ := by
            have : sy.data.toList = [] := List.eq_nil_of_length_eq_zero hs0
            have e : sy = ⟨sy.data.toList.toArray⟩ := rfl
            rw [e, this]
          subst hsy
          have HG := hgood (by rfl) (by show (1 :: beN _ 8).length ≤ _; simp [beN_length])
          clear hbad hgood hs0 hps
          obtain ⟨U, hU⟩ : ∃ U, bits .xor .u64 (IntKind.u64.wrap x) 9223372036854775808 = U := ⟨_, rfl⟩
          have hU0 := bits_lo_u64 .xor (IntKind.u64.wrap x) 9223372036854775808
          have hU1 := bits_hi_u64 .xor (IntKind.u64.wrap x) 9223372036854775808
          have hUF : flipN x = U.toNat := by unfold flipN; rw [hU]
          rw [hU] at hU0 hU1
          obtain ⟨u, rfl⟩ := Int.eq_ofNat_of_zero_le hU0
          rw [Int.toNat_natCast] at hUF
          have HG2 : Hid (l ++ [1] ++ beN u 8 = packL (ps.take (k + 1)) ∧ anyBad (ps.take (k + 1)) = false ∧ (l ++ [1] ++ beN u 8).length ≤ (k + 1) * 5000000) := by
            have e : l ++ [1] ++ beN u 8 = l ++ (Part.bytes ⟨false, x, ⟨#[]⟩⟩) := by
              show _ = l ++ (1 :: beN (flipN x) 8)
              rw [hUF]; simp
            rw [e]; exact HG.out
          have hR0 : Row w.heap.size l u4 (wr.alloc (.cells #[.int .u8 1] 5)) := World.ownsRow.alloc hr.out _
          have hg0 := heap_alloc_new wr (.cells #[.int .u8 1] 5)
          clear hUF HG hx0 hx1 d0 d1 d2
          go_wp2_with (at_builtin; refine wpList_push rfl _ _ rfl w.heap.size l 1 _ wr.heap.size rfl hR0 rfl hg0 (by omega) (by simp; omega) ?_; intro v' w3 hR3 hgrow)
          have B3 := hid ((hb.out.alloc hwr (.cells #[.int .u8 1] 5)).grown hgrow (by simp; omega) (fun g hg => (World.ownsRow.lt hr.out g hg).1))
          have R3 := hid hR3
          clear hR3 hgrow hR0 hg0 hb hr hU c0 c1 c2
          go_wp2_with fail
          clear hl
          go_loopw [4, 7] (fun v i wq => ∃ j : Nat, j ≤ 8 ∧ i = .int .i64 (56 - 8 * (j : Int)) ∧ Hid (Row w.heap.size (l ++ [1] ++ beN u j) v wq) ∧ Hid (Below w.heap.size w wq)) (fun _ i _ => (intOf i + 8).toNat)
          case atStart => exact ⟨0, by omega, by rfl, by show Row _ _ _ _; simpa [beN] using R3.out, B3.out⟩
          case round =>
            obtain ⟨j, hj, rfl, hr, hb⟩ := hrel
            rename World => wq
            clear R3 B3
            have hwq := hb.out.size
            rcases (by omega : j = 0 ∨ j = 1 ∨ j = 2 ∨ j = 3 ∨ j = 4 ∨ j = 5 ∨ j = 6 ∨ j = 7 ∨ j = 8) with rfl | rfl | rfl | rfl | rfl | rfl | rfl | rfl | rfl
            · have e : l ++ [1] ++ beN u 0 ++ [UInt8.ofNat (u / 72057594037927936)] = l ++ [1] ++ beN u 1 := by rw [beN_succ u 0, ← List.append_assoc]
              obtain ⟨m, hm⟩ : ∃ m, l ++ [1] ++ beN u 0 = m := ⟨_, rfl⟩
              have hlen : (l ++ [1] ++ beN u 0).length ≤ 5000000000009 := by simp [beN]; omega
              rw [hm] at hr e hlen
              clear hm
              have hx : ((UInt8.ofNat (u / 72057594037927936)).toNat : Int) = (u : Int) / 72057594037927936 := by
                rw [UInt8.toNat_ofNat']; omega
              have hR0 : Row w.heap.size m u4 (wq.alloc (.cells #[.int .u8 ((u : Int) / 72057594037927936)] 5)) := World.ownsRow.alloc hr.out _
              have hg0 : (wq.alloc (.cells #[.int .u8 ((u : Int) / 72057594037927936)] 5)).heap[wq.heap.size]? = some (.cells #[.int .u8 (UInt8.ofNat (u / 72057594037927936)).toNat] 5 (0, 0)) := by
                rw [hx]; exact heap_alloc_new wq _
              clear hx
              go_wp2_with (at_builtin; refine wpList_push rfl _ _ rfl w.heap.size m (UInt8.ofNat (u / 72057594037927936)) _ wq.heap.size rfl hR0 rfl hg0 (by omega) (by simp; omega) ?_; intro v' w3 hR3 hgrow)
              rw [e] at hR3
              have HB3 := hid ((hb.out.alloc hwq (.cells #[.int .u8 ((u : Int) / 72057594037927936)] 5)).grown hgrow (by simp; omega) (fun g hg => (World.ownsRow.lt hr.out g hg).1))
              have HR3 := hid hR3
              clear hR3 hgrow e hR0 hg0
              go_wp2_with fail
              go_roundw
              case rel => exact ⟨1, by omega, by go_num, HR3, HB3⟩
              case measure => simp [intOf]
            · have e : l ++ [1] ++ beN u 1 ++ [UInt8.ofNat (u / 281474976710656)] = l ++ [1] ++ beN u 2 := by rw [beN_succ u 1, ← List.append_assoc]
              obtain ⟨m, hm⟩ : ∃ m, l ++ [1] ++ beN u 1 = m := ⟨_, rfl⟩
              have hlen : (l ++ [1] ++ beN u 1).length ≤ 5000000000009 := by simp [beN]; omega
              rw [hm] at hr e hlen
              clear hm
              have hx : ((UInt8.ofNat (u / 281474976710656)).toNat : Int) = (u : Int) / 281474976710656 % 256 := by
                rw [UInt8.toNat_ofNat']; omega
              have hR0 : Row w.heap.size m u4 (wq.alloc (.cells #[.int .u8 ((u : Int) / 281474976710656 % 256)] 5)) := World.ownsRow.alloc hr.out _
              have hg0 : (wq.alloc (.cells #[.int .u8 ((u : Int) / 281474976710656 % 256)] 5)).heap[wq.heap.size]? = some (.cells #[.int .u8 (UInt8.ofNat (u / 281474976710656)).toNat] 5 (0, 0)) := by
                rw [hx]; exact heap_alloc_new wq _
              clear hx
              go_wp2_with (at_builtin; refine wpList_push rfl _ _ rfl w.heap.size m (UInt8.ofNat (u / 281474976710656)) _ wq.heap.size rfl hR0 rfl hg0 (by omega) (by simp; omega) ?_; intro v' w3 hR3 hgrow)
              rw [e] at hR3
              have HB3 := hid ((hb.out.alloc hwq (.cells #[.int .u8 ((u : Int) / 281474976710656 % 256)] 5)).grown hgrow (by simp; omega) (fun g hg => (World.ownsRow.lt hr.out g hg).1))
              have HR3 := hid hR3
              clear hR3 hgrow e hR0 hg0
              go_wp2_with fail
              go_roundw
              case rel => exact ⟨2, by omega, by go_num, HR3, HB3⟩
              case measure => simp [intOf]
            · have e : l ++ [1] ++ beN u 2 ++ [UInt8.ofNat (u / 1099511627776)] = l ++ [1] ++ beN u 3 := by rw [beN_succ u 2, ← List.append_assoc]
              obtain ⟨m, hm⟩ : ∃ m, l ++ [1] ++ beN u 2 = m := ⟨_, rfl⟩
              have hlen : (l ++ [1] ++ beN u 2).length ≤ 5000000000009 := by simp [beN]; omega
              rw [hm] at hr e hlen
              clear hm
              have hx : ((UInt8.ofNat (u / 1099511627776)).toNat : Int) = (u : Int) / 1099511627776 % 256 := by
                rw [UInt8.toNat_ofNat']; omega
              have hR0 : Row w.heap.size m u4 (wq.alloc (.cells #[.int .u8 ((u : Int) / 1099511627776 % 256)] 5)) := World.ownsRow.alloc hr.out _
              have hg0 : (wq.alloc (.cells #[.int .u8 ((u : Int) / 1099511627776 % 256)] 5)).heap[wq.heap.size]? = some (.cells #[.int .u8 (UInt8.ofNat (u / 1099511627776)).toNat] 5 (0, 0)) := by
                rw [hx]; exact heap_alloc_new wq _
              clear hx
              go_wp2_with (at_builtin; refine wpList_push rfl _ _ rfl w.heap.size m (UInt8.ofNat (u / 1099511627776)) _ wq.heap.size rfl hR0 rfl hg0 (by omega) (by simp; omega) ?_; intro v' w3 hR3 hgrow)
              rw [e] at hR3
              have HB3 := hid ((hb.out.alloc hwq (.cells #[.int .u8 ((u : Int) / 1099511627776 % 256)] 5)).grown hgrow (by simp; omega) (fun g hg => (World.ownsRow.lt hr.out g hg).1))
              have HR3 := hid hR3
              clear hR3 hgrow e hR0 hg0
              go_wp2_with fail
              go_roundw
              case rel => exact ⟨3, by omega, by go_num, HR3, HB3⟩
              case measure => simp [intOf]
            · have e : l ++ [1] ++ beN u 3 ++ [UInt8.ofNat (u / 4294967296)] = l ++ [1] ++ beN u 4 := by rw [beN_succ u 3, ← List.append_assoc]
              obtain ⟨m, hm⟩ : ∃ m, l ++ [1] ++ beN u 3 = m := ⟨_, rfl⟩
              have hlen : (l ++ [1] ++ beN u 3).length ≤ 5000000000009 := by simp [beN]; omega
              rw [hm] at hr e hlen
              clear hm
              have hx : ((UInt8.ofNat (u / 4294967296)).toNat : Int) = (u : Int) / 4294967296 % 256 := by
                rw [UInt8.toNat_ofNat']; omega
              have hR0 : Row w.heap.size m u4 (wq.alloc (.cells #[.int .u8 ((u : Int) / 4294967296 % 256)] 5)) := World.ownsRow.alloc hr.out _
              have hg0 : (wq.alloc (.cells #[.int .u8 ((u : Int) / 4294967296 % 256)] 5)).heap[wq.heap.size]? = some (.cells #[.int .u8 (UInt8.ofNat (u / 4294967296)).toNat] 5 (0, 0)) := by
                rw [hx]; exact heap_alloc_new wq _
              clear hx
              go_wp2_with (at_builtin; refine wpList_push rfl _ _ rfl w.heap.size m (UInt8.ofNat (u / 4294967296)) _ wq.heap.size rfl hR0 rfl hg0 (by omega) (by simp; omega) ?_; intro v' w3 hR3 hgrow)
              rw [e] at hR3
              have HB3 := hid ((hb.out.alloc hwq (.cells #[.int .u8 ((u : Int) / 4294967296 % 256)] 5)).grown hgrow (by simp; omega) (fun g hg => (World.ownsRow.lt hr.out g hg).1))
              have HR3 := hid hR3
              clear hR3 hgrow e hR0 hg0
              go_wp2_with fail
              go_roundw
              case rel => exact ⟨4, by omega, by go_num, HR3, HB3⟩
              case measure => simp [intOf]
            · have e : l ++ [1] ++ beN u 4 ++ [UInt8.ofNat (u / 16777216)] = l ++ [1] ++ beN u 5 := by rw [beN_succ u 4, ← List.append_assoc]
              obtain ⟨m, hm⟩ : ∃ m, l ++ [1] ++ beN u 4 = m := ⟨_, rfl⟩
              have hlen : (l ++ [1] ++ beN u 4).length ≤ 5000000000009 := by simp [beN]; omega
              rw [hm] at hr e hlen
              clear hm
              have hx : ((UInt8.ofNat (u / 16777216)).toNat : Int) = (u : Int) / 16777216 % 256 := by
                rw [UInt8.toNat_ofNat']; omega
              have hR0 : Row w.heap.size m u4 (wq.alloc (.cells #[.int .u8 ((u : Int) / 16777216 % 256)] 5)) := World.ownsRow.alloc hr.out _
              have hg0 : (wq.alloc (.cells #[.int .u8 ((u : Int) / 16777216 % 256)] 5)).heap[wq.heap.size]? = some (.cells #[.int .u8 (UInt8.ofNat (u / 16777216)).toNat] 5 (0, 0)) := by
                rw [hx]; exact heap_alloc_new wq _
              clear hx
              go_wp2_with (at_builtin; refine wpList_push rfl _ _ rfl w.heap.size m (UInt8.ofNat (u / 16777216)) _ wq.heap.size rfl hR0 rfl hg0 (by omega) (by simp; omega) ?_; intro v' w3 hR3 hgrow)
              rw [e] at hR3
              have HB3 := hid ((hb.out.alloc hwq (.cells #[.int .u8 ((u : Int) / 16777216 % 256)] 5)).grown hgrow (by simp; omega) (fun g hg => (World.ownsRow.lt hr.out g hg).1))
              have HR3 := hid hR3
              clear hR3 hgrow e hR0 hg0
              go_wp2_with fail
              go_roundw
              case rel => exact ⟨5, by omega, by go_num, HR3, HB3⟩
              case measure => simp [intOf]
            · have e : l ++ [1] ++ beN u 5 ++ [UInt8.ofNat (u / 65536)] = l ++ [1] ++ beN u 6 := by rw [beN_succ u 5, ← List.append_assoc]
              obtain ⟨m, hm⟩ : ∃ m, l ++ [1] ++ beN u 5 = m := ⟨_, rfl⟩
              have hlen : (l ++ [1] ++ beN u 5).length ≤ 5000000000009 := by simp [beN]; omega
              rw [hm] at hr e hlen
              clear hm
              have hx : ((UInt8.ofNat (u / 65536)).toNat : Int) = (u : Int) / 65536 % 256 := by
                rw [UInt8.toNat_ofNat']; omega
              have hR0 : Row w.heap.size m u4 (wq.alloc (.cells #[.int .u8 ((u : Int) / 65536 % 256)] 5)) := World.ownsRow.alloc hr.out _
              have hg0 : (wq.alloc (.cells #[.int .u8 ((u : Int) / 65536 % 256)] 5)).heap[wq.heap.size]? = some (.cells #[.int .u8 (UInt8.ofNat (u / 65536)).toNat] 5 (0, 0)) := by
                rw [hx]; exact heap_alloc_new wq _
              clear hx
              go_wp2_with (at_builtin; refine wpList_push rfl _ _ rfl w.heap.size m (UInt8.ofNat (u / 65536)) _ wq.heap.size rfl hR0 rfl hg0 (by omega) (by simp; omega) ?_; intro v' w3 hR3 hgrow)
              rw [e] at hR3
              have HB3 := hid ((hb.out.alloc hwq (.cells #[.int .u8 ((u : Int) / 65536 % 256)] 5)).grown hgrow (by simp; omega) (fun g hg => (World.ownsRow.lt hr.out g hg).1))
              have HR3 := hid hR3
              clear hR3 hgrow e hR0 hg0
              go_wp2_with fail
              go_roundw
              case rel => exact ⟨6, by omega, by go_num, HR3, HB3⟩
              case measure => simp [intOf]
            · have e : l ++ [1] ++ beN u 6 ++ [UInt8.ofNat (u / 256)] = l ++ [1] ++ beN u 7 := by rw [beN_succ u 6, ← List.append_assoc]
              obtain ⟨m, hm⟩ : ∃ m, l ++ [1] ++ beN u 6 = m := ⟨_, rfl⟩
              have hlen : (l ++ [1] ++ beN u 6).length ≤ 5000000000009 := by simp [beN]; omega
              rw [hm] at hr e hlen
              clear hm
              have hx : ((UInt8.ofNat (u / 256)).toNat : Int) = (u : Int) / 256 % 256 := by
                rw [UInt8.toNat_ofNat']; omega
              have hR0 : Row w.heap.size m u4 (wq.alloc (.cells #[.int .u8 ((u : Int) / 256 % 256)] 5)) := World.ownsRow.alloc hr.out _
              have hg0 : (wq.alloc (.cells #[.int .u8 ((u : Int) / 256 % 256)] 5)).heap[wq.heap.size]? = some (.cells #[.int .u8 (UInt8.ofNat (u / 256)).toNat] 5 (0, 0)) := by
                rw [hx]; exact heap_alloc_new wq _
              clear hx
              go_wp2_with (at_builtin; refine wpList_push rfl _ _ rfl w.heap.size m (UInt8.ofNat (u / 256)) _ wq.heap.size rfl hR0 rfl hg0 (by omega) (by simp; omega) ?_; intro v' w3 hR3 hgrow)
              rw [e] at hR3
              have HB3 := hid ((hb.out.alloc hwq (.cells #[.int .u8 ((u : Int) / 256 % 256)] 5)).grown hgrow (by simp; omega) (fun g hg => (World.ownsRow.lt hr.out g hg).1))
              have HR3 := hid hR3
              clear hR3 hgrow e hR0 hg0
              go_wp2_with fail
              go_roundw
              case rel => exact ⟨7, by omega, by go_num, HR3, HB3⟩
              case measure => simp [intOf]
            · have e : l ++ [1] ++ beN u 7 ++ [UInt8.ofNat (u / 1)] = l ++ [1] ++ beN u 8 := by rw [beN_succ u 7, ← List.append_assoc]
              obtain ⟨m, hm⟩ : ∃ m, l ++ [1] ++ beN u 7 = m := ⟨_, rfl⟩
              have hlen : (l ++ [1] ++ beN u 7).length ≤ 5000000000009 := by simp [beN]; omega
              rw [hm] at hr e hlen
              clear hm
              have hx : ((UInt8.ofNat (u / 1)).toNat : Int) = (u : Int) % 256 := by
                rw [UInt8.toNat_ofNat']; omega
              have hR0 : Row w.heap.size m u4 (wq.alloc (.cells #[.int .u8 ((u : Int) % 256)] 5)) := World.ownsRow.alloc hr.out _
              have hg0 : (wq.alloc (.cells #[.int .u8 ((u : Int) % 256)] 5)).heap[wq.heap.size]? = some (.cells #[.int .u8 (UInt8.ofNat (u / 1)).toNat] 5 (0, 0)) := by
                rw [hx]; exact heap_alloc_new wq _
              clear hx
              go_wp2_with (at_builtin; refine wpList_push rfl _ _ rfl w.heap.size m (UInt8.ofNat (u / 1)) _ wq.heap.size rfl hR0 rfl hg0 (by omega) (by simp; omega) ?_; intro v' w3 hR3 hgrow)
              rw [e] at hR3
              have HB3 := hid ((hb.out.alloc hwq (.cells #[.int .u8 ((u : Int) % 256)] 5)).grown hgrow (by simp; omega) (fun g hg => (World.ownsRow.lt hr.out g hg).1))
              have HR3 := hid hR3
              clear hR3 hgrow e hR0 hg0
              go_wp2_with fail
              go_roundw
              case rel => exact ⟨8, by omega, by go_num, HR3, HB3⟩
              case measure => simp [intOf]
            · go_wp2_with fail
              go_roundw
              case rel => exact ⟨k + 1, _, by omega, by go_num, hr, hb, HG2⟩
              case measure => simp [intOf]; omega
        · have HU := hbad (by simp [Part.bad, hs0])
          have hemp : sy.toList.isEmpty = false := by
            rw [← decide_eq_emptyBytes]
            exact decide_eq_false (fun h => hs0 (by rw [h]; rfl))
          clear hbad hgood
          go_wp2_with fail
          go_ret2
          exact ⟨ret_lc (a := ([], 1)) HU.out.symm, hb.out⟩
      · by_cases hx : x = 0
        · subst hx
          have hel : (escL sy.data.toList).length ≤ 4000000 := by
            have := escL_length sy.data.toList
            have e : sy.data.toList.length = sy.size := rfl
            omega
          have HG := hgood (by rfl) (by show (2 :: (esc sy.data.toList ++ [0, 0])).length ≤ _; rw [esc_eq]; simp only [List.length_cons, List.length_append, List.length_nil]; omega)
          have HG2 : Hid (l ++ [2] ++ escL sy.data.toList ++ [0, 0] = packL (ps.take (k + 1)) ∧ anyBad (ps.take (k + 1)) = false ∧ (l ++ [2] ++ escL sy.data.toList ++ [0, 0]).length ≤ (k + 1) * 5000000) := by
            have e : l ++ [2] ++ escL sy.data.toList ++ [0, 0] = l ++ (Part.bytes ⟨true, 0, sy⟩) := by
              show _ = l ++ (2 :: (esc sy.data.toList ++ [0, 0]))
              rw [esc_eq]; simp
            rw [e]; exact HG.out
          have hR0 : Row w.heap.size l u4 (wr.alloc (.cells #[.int .u8 2] 5)) := World.ownsRow.alloc hr.out _
          have hg0 := heap_alloc_new wr (.cells #[.int .u8 2] 5)
          clear hbad hgood HG hx0 hx1 d0 d1 hel
          go_wp2_with (at_builtin; refine wpList_push rfl _ _ rfl w.heap.size l 2 _ wr.heap.size rfl hR0 rfl hg0 (by omega) (by simp; omega) ?_; intro v' w3 hR3 hgrow)
          have B3 := hid ((hb.out.alloc hwr (.cells #[.int .u8 2] 5)).grown hgrow (by simp; omega) (fun g hg => (World.ownsRow.lt hr.out g hg).1))
          have R3 := hid hR3
          clear hR3 hgrow hR0 hg0 hb hr c0 c1 c2
          go_wp2_with fail
          clear hl
          go_loopw [4, 8] (fun v i wq => ∃ j : Nat, j ≤ sy.size ∧ i = .int .i64 j ∧ Hid (Row w.heap.size (l ++ [2] ++ escL (sy.data.toList.take j)) v wq) ∧ Hid (Below w.heap.size w wq)) (fun _ i _ => sy.size - (intOf i).toNat)
          case atStart => exact ⟨0, by omega, rfl, by show Row _ _ _ _; simpa [escL] using R3.out, B3.out⟩
          case round =>
            obtain ⟨j, hj, rfl, hr, hb⟩ := hrel
            rename World => wq
            clear R3 B3
            have hwq := hb.out.size
            have c2 := (hb.out.cell (p := ⟨b, _, none⟩) hbl).trans d2
            have hlen : (l ++ [2] ++ escL (sy.data.toList.take j)).length ≤ 6000000000000 := by
              have := escL_length (sy.data.toList.take j)
              have e : sy.data.toList.length = sy.size := rfl
              rw [List.length_take] at this
              simp only [List.length_append, List.length_cons, List.length_nil]
              omega
            by_cases hjs : j < sy.size
            · have hl : decide ((j : Int) < (sy.size : Int)) = true := by simp; omega
              have htk : sy.data.toList.take (j + 1) = sy.data.toList.take j ++ [sy[j]] := by
                rw [List.take_succ_eq_append_getElem (by rw [Array.length_toList]; exact hjs)]; rfl
              have hesc : escL (sy.data.toList.take (j + 1)) = escL (sy.data.toList.take j) ++ (if sy[j] = 0 then [0, 255] else [sy[j]]) := by rw [htk, escL_snoc]
              obtain ⟨m, hm⟩ : ∃ m, l ++ [2] ++ escL (sy.data.toList.take j) = m := ⟨_, rfl⟩
              have HES : Hid (l ++ [2] ++ escL (sy.data.toList.take (j + 1)) = m ++ (if sy[j] = 0 then [0, 255] else [sy[j]])) := by
                show _ = _
                rw [hesc, ← hm]; simp only [List.append_assoc]
              rw [hm] at hr hlen
              have hR0 : Row w.heap.size m u4 (wq.alloc (.cells #[.int .u8 sy[j].toNat] 5)) := World.ownsRow.alloc hr.out _
              have hg0 := heap_alloc_new wq (.cells #[.int .u8 sy[j].toNat] 5)
              clear hm hesc htk
              by_cases h0 : sy[j] = 0
              · have q0 : ((sy[j].toNat : Int) == 0) = true := by rw [h0]; rfl
                have HR5 : Hid (m ++ [sy[j]] ++ [255] = l ++ [2] ++ escL (sy.data.toList.take (j + 1))) := by
                  show _ = _
                  rw [HES.out, if_pos h0]; simp [h0]
                have hR0 : Row w.heap.size m u4 (wq.alloc (.cells #[.int .u8 sy[j].toNat] 5)) := World.ownsRow.alloc hr.out _
                have hg0 := heap_alloc_new wq (.cells #[.int .u8 sy[j].toNat] 5)
                clear h0
                go_wp2_with (first
                  | (at_builtin; refine wpList_push rfl _ _ rfl w.heap.size m sy[j] _ wq.heap.size rfl hR0 rfl hg0 (by omega) (by simp; omega) ?_; intro v' w4 hR4 hgrow; have b4 := (hb.out.alloc hwq (.cells #[.int .u8 sy[j].toNat] 5)).grown hgrow (by simp; omega) (fun g hg => (World.ownsRow.lt hr.out g hg).1); have c3 := (b4.cell (p := ⟨b, _, none⟩) hbl).trans d2; have h4 := b4.size)
                  | (at_builtin; refine wpList_push rfl _ _ rfl w.heap.size (m ++ [sy[j]]) 255 _ w4.heap.size rfl (World.ownsRow.alloc hR4 _) rfl (heap_alloc_new w4 _) (by simp; omega) (by simp; omega) ?_; intro v5 w5 hR5 hgrow5))
                rw [HR5.out] at hR5
                have B5 := hid ((b4.alloc h4 (.cells #[.int .u8 255] 5)).grown hgrow5 (by simp; omega) (fun g hg => (World.ownsRow.lt hR4 g hg).1))
                have R5 := hid hR5
                clear hR5 hR4 b4 hgrow hgrow5 hR0 hg0
                go_wp2_with fail
                go_roundw
                case rel => exact ⟨j + 1, by omega, by go_num, R5, B5⟩
                case measure => simp [intOf]; omega
              · have q0 : ((sy[j].toNat : Int) == 0) = false := beq_eq_false_iff_ne.2 (fun e => h0 (u8eq (b := 0) (by show _ = 0; omega)))
                go_wp2_with (at_builtin; refine wpList_push rfl _ _ rfl w.heap.size m sy[j] _ wq.heap.size rfl hR0 rfl hg0 (by omega) (by simp; omega) ?_; intro v' w4 hR4 hgrow; have c3 := (((hb.out.alloc hwq (.cells #[.int .u8 sy[j].toNat] 5)).grown hgrow (by simp; omega) (fun g hg => (World.ownsRow.lt hr.out g hg).1)).cell (p := ⟨b, _, none⟩) hbl).trans d2)
                have B4 := hid ((hb.out.alloc hwq (.cells #[.int .u8 sy[j].toNat] 5)).grown hgrow (by simp; omega) (fun g hg => (World.ownsRow.lt hr.out g hg).1))
                have R4 := hid hR4
                have hw4 := B4.out.size
                clear hR4 hgrow hR0 hg0 c2 hr hb
                have HR5 : Hid (Row w.heap.size (l ++ [2] ++ escL (sy.data.toList.take (j + 1))) v' w4) := by
                  show Row _ _ _ _
                  rw [HES.out, if_neg h0]; exact R4.out
                clear h0
                go_wp2_with fail
                go_roundw
                case rel => exact ⟨j + 1, by omega, by go_num, HR5, B4⟩
                case measure => simp [intOf]; omega
            · have hl : decide ((j : Int) < (sy.size : Int)) = false := by simp; omega
              have hfull : sy.data.toList.take j = sy.data.toList := List.take_of_length_le (by rw [Array.length_toList]; show sy.size ≤ j; omega)
              rw [hfull] at hr hlen
              have hR0 : Row w.heap.size (l ++ [2] ++ escL sy.data.toList) u4 (wq.alloc (.cells #[.int .u8 0, .int .u8 0] 5)) := World.ownsRow.alloc hr.out _
              have hg0 := heap_alloc_new wq (.cells #[.int .u8 0, .int .u8 0] 5)
              clear hfull
              go_wp2_with (at_builtin; refine wpList_push2 rfl _ _ rfl w.heap.size (l ++ [2] ++ escL sy.data.toList) _ wq.heap.size rfl hR0 rfl hg0 (by omega) (by simp; omega) ?_; intro v' w4 hR4 hgrow)
              have B4 := hid ((hb.out.alloc hwq (.cells #[.int .u8 0, .int .u8 0] 5)).grown hgrow (by simp; omega) (fun g hg => (World.ownsRow.lt hr.out g hg).1))
              have R4 := hid hR4
              clear hR4 hgrow hR0 hg0 c2
              go_wp2_with fail
              go_roundw
              case rel => exact ⟨k + 1, _, by omega, by go_num, R4, B4, HG2⟩
              case measure => simp [intOf]; omega
        · have HU := hbad (by simp [Part.bad, hx])
          have q0 : (x != 0) = true := by rw [bne_iff_ne]; exact hx
          clear hbad hgood
          go_wp2_with fail
          go_ret2
          exact ⟨ret_lc (a := ([], 1)) HU.out.symm, hb.out⟩
    · have hl : decide ((k : Int) < (n : Int)) = false := by simp; omega
      have hfull : ps.take k = ps := List.take_of_length_le (by have := HN.out; omega)
      have hI2 := hI.out
      rw [hfull] at hI2
      have HE : Hid (R = (l, 0)) := by
        show _ = _
        rw [HRES.out, hI2.2.1, hI2.1]; rfl
      have hconv := hr.out.conv
      clear hI hI2 hfull
      go_wp2_with fail
      go_ret2
      exact ⟨ret_lc (a := (l, 0)) HE.out.symm, hb.out⟩
end Go.Proofs.YtfadnhihcobclaaDoor
