/- The law's rises: the places of an element and what is in it. -/
import Derived.Test.YtakplnceiibmlaaGreatDoorMPlaceR
import Derived.Test.YtakplnceiibmlaaGreatDoorTill
import Derived.Deep.RegionHeld3
namespace Go.Proofs.YtakplnceiibmlaaGreatDoor
open Go.RowKit
open Go.Lib (hid)
namespace X
def N.sz : N → Nat
  | .nil => 0
  | .cons _ _ _ ks _ _ _ r => ks.sz + r.sz + 1
theorem N.sz_app : ∀ (a b : N), (a.app b).sz = a.sz + b.sz
  | .nil, b => by simp [N.app, N.sz]
  | .cons _ _ _ ks _ _ _ r, b => by simp only [N.app, N.sz, N.sz_app r b]; omega
theorem N.At.suffix {w : World} {P : Nat → Prop} : ∀ (a t : N) (g o : Nat), (a.app t).At w P g o → t.At w P g (o + 7 * a.length)
  | .nil, t, g, o, h => by simpa [N.app, N.length] using h
  | .cons sp lo al ks tx ln cl r, t, g, o, h => by
    have h2 := N.At.suffix r t g (o + 7) h.2.2.2.2.2.2.2.2
    have e : o + 7 * (N.cons sp lo al ks tx ln cl r).length = o + 7 + 7 * r.length := by simp only [N.length]; omega
    rw [e]; exact h2
theorem N.app_one (a : N) (sp lo : ByteArray) (al : List A) (ks : N) (tx : ByteArray) (ln cl : Nat) (r : N) : (a.app (.cons sp lo al ks tx ln cl .nil)).app r = a.app (.cons sp lo al ks tx ln cl r) := by
  rw [N.app_assoc]; rfl
end X
theorem at_ne_line {S : List UInt8} {i j : Nat} (hi : i ≤ S.length) (hj : j ≤ S.length) (hne : i ≠ j) (h : X.lineOf S i = X.lineOf S j) : X.colOf S i ≠ X.colOf S j := fun hc => hne (X.at_inj hi hj (Prod.ext h hc))
theorem chain_len {S : List UInt8} : ∀ {ks : X.N} {lo hi : Nat}, X.Chain S lo ks hi → lo + ks.length ≤ hi
  | .nil, _, _, h => h
  | .cons _ _ _ ks _ _ _ r, _, _, ⟨i, m, h1, _, _, _, h2, h3⟩ => by
    have := X.Chain.le h2
    have := chain_len h3
    simp only [X.N.length]
    omega
/-- the contract of rises at elements that hold so many at most -/
def RisesC (s : ByteArray) (n : Nat) : Prop := ∀ (e : X.E), e.ks.sz ≤ n → ∀ (W : World) (P : Nat → Prop) (cs : List Value) (la : Nat × Nat) (i m : Nat), e.Has W P cs → (∀ b, P b → b < W.heap.size) → s.data.toList[i]? = some 60 → e.ln = X.lineOf s.data.toList i → e.cl = X.colOf s.data.toList i →
  X.Chain s.data.toList (i + 1) e.ks m → m ≤ s.size → X.Ahead la (X.at_ s.data.toList i) →
  Calls Tryz.prog 8 #[.string s, .agg cs.toArray, posAgg la] W fun en W' => (∃ j, i ≤ j ∧ j < m ∧ en = .returned (posAgg (X.at_ s.data.toList j))) ∧ Below W.heap.size W W'
set_option maxRecDepth 100000 in
set_option maxHeartbeats 8000000 in
theorem rises_step {s : ByteArray} (hs : s.size ≤ 1000000000000) {n : Nat} (IH : ∀ n', n' < n → RisesC s n') : RisesC s n := by
  intro e hn W P cs la i m hh hPW h60 hln hcl hch hm hla
  obtain ⟨av, kv, rfl, hav, hkv⟩ := hh
  obtain ⟨ava, avc, rfl⟩ := hav.shape
  obtain ⟨esp, hesp⟩ : ∃ z, e.sp = z := ⟨_, rfl⟩
  obtain ⟨elo, helo⟩ : ∃ z, e.lo = z := ⟨_, rfl⟩
  obtain ⟨etx, hetx⟩ : ∃ z, e.tx = z := ⟨_, rfl⟩
  obtain ⟨avn, havn⟩ : ∃ z, (X.E.as e).length = z := ⟨_, rfl⟩
  obtain ⟨kva, kvc, rfl⟩ := hkv.shape
  obtain ⟨kn, hkn⟩ : ∃ z, e.ks.length = z := ⟨_, rfl⟩
  obtain ⟨ln, hlne⟩ : ∃ z, e.ln = z := ⟨_, rfl⟩
  obtain ⟨cl, hcle⟩ : ∃ z, e.cl = z := ⟨_, rfl⟩
  have HKS0 : Hid (∃ g o, (0 < kn → kva = some ⟨g, o, none⟩ ∧ kn ≤ kvc ∧ e.ks.At W P g o)) := by
    rcases hkv with ⟨h0, _⟩ | ⟨g, o, c, he, h1, h2, h3⟩
    · refine ⟨0, 0, fun h => ?_⟩
      rw [h0] at hkn; rw [← hkn] at h; exact absurd h (by decide)
    · simp only [Value.slice.injEq] at he
      exact ⟨g, o, fun _ => ⟨he.1, by rw [he.2.2, ← hkn]; exact h1, h3⟩⟩
  obtain ⟨g, o, hKS⟩ := HKS0.out
  have HKS := hid hKS
  rw [hesp, helo, hetx, havn, hkn, hlne, hcle]
  rw [hlne] at hln
  rw [hcle] at hcl
  have hi : i < s.size := by
    have := List.getElem?_eq_some_iff.1 h60
    obtain ⟨h, _⟩ := this
    rw [← Lib.size_eq] at h; exact h
  have hc60 : s[i]'hi = 60 := by have := byte_some hi; rw [h60] at this; exact (Option.some.inj this).symm
  obtain ⟨l1, l2⟩ := la
  have hbef : bef (l1, l2) (ln, cl) = true := by rw [hln, hcl]; exact decide_eq_true hla
  obtain ⟨H, hH⟩ : ∃ H, W.heap.size = H := ⟨_, rfl⟩
  obtain ⟨w1, hw1⟩ : ∃ w1, ((W.alloc (.cells #[.string esp, .string elo, .slice ava avn avc, .slice kva kn kvc, .string etx, .int .i64 ln, .int .i64 cl] 28)).alloc (.cells #[.int .i64 l1, .int .i64 l2] 26)).alloc (.cells #[.int .i64 0, .int .i64 0] 26) = w1 := ⟨_, rfl⟩
  have HR1 : Hid (w1.heap[H]? = some (nodeRow esp elo (.slice ava avn avc) (.slice kva kn kvc) etx ln cl) ∧ w1.heap[H + 1]? = some (.cells #[.int .i64 l1, .int .i64 l2] 26 (0, 0)) ∧ w1.heap[H + 2]? = some (.cells #[.int .i64 0, .int .i64 0] 26 (0, 0)) ∧ Below W.heap.size W w1) := by
    obtain ⟨wa, ha⟩ : ∃ wa, W.alloc (.cells #[.string esp, .string elo, .slice ava avn avc, .slice kva kn kvc, .string etx, .int .i64 ln, .int .i64 cl] 28) = wa := ⟨_, rfl⟩
    have sa : wa.heap.size = H + 1 := by rw [← ha]; simp [hH]
    have na : wa.heap[H]? = some (nodeRow esp elo (.slice ava avn avc) (.slice kva kn kvc) etx ln cl) := by rw [← ha, ← hH]; exact heap_alloc_new W _
    have ba : Below W.heap.size W wa := by rw [← ha]; exact (Below.refl _ W).alloc (Nat.le_refl _) _
    rw [ha] at hw1
    obtain ⟨wb, hb⟩ : ∃ wb, wa.alloc (.cells #[.int .i64 l1, .int .i64 l2] 26) = wb := ⟨_, rfl⟩
    have sb : wb.heap.size = H + 2 := by rw [← hb]; simp [sa]
    have nb : wb.heap[H + 1]? = some (.cells #[.int .i64 l1, .int .i64 l2] 26 (0, 0)) := by rw [← hb, ← sa]; exact heap_alloc_new wa _
    have bb : Below wa.heap.size wa wb := by rw [← hb]; exact (Below.refl _ wa).alloc (Nat.le_refl _) _
    rw [hb] at hw1
    have nc : w1.heap[H + 2]? = some (.cells #[.int .i64 0, .int .i64 0] 26 (0, 0)) := by rw [← hw1, ← sb]; exact heap_alloc_new wb _
    have bc : Below wb.heap.size wb w1 := by rw [← hw1]; exact (Below.refl _ wb).alloc (Nat.le_refl _) _
    exact ⟨(bc.block _ (by omega)).trans ((bb.block _ (by omega)).trans na), (bc.block _ (by omega)).trans nb, nc, (ba.trans (bb.mono (by omega))).trans (bc.mono (by omega))⟩
  have HW1 := hid hw1
  have HH := hid hH
  have HLN := hid hln
  have HCL := hid hcl
  have HCH := hid hch
  have HPW := hid hPW
  have HIH := hid IH
  have HN := hid hn
  have HKN := hid hkn
  have HM := hid hm
  have cB := before_any (l1, l2) (ln, cl) w1
  rw [hbef] at cB
  unfold posAgg at cB ⊢
  simp only at cB ⊢
  have hr1 := HR1.out.1
  unfold nodeRow at hr1
  obtain ⟨x0, x1, x2, x3, x4, x5, x6⟩ := row7 hr1
  obtain ⟨y0, y1⟩ := row2 HR1.out.2.1
  clear hw1 hH hln hcl hch hPW IH hn hkn hm hla hbef hkv hav hr1 hesp helo hetx havn hlne hcle hKS HKS0 h60
  go_enter Tryz.func8, Tryz.ntmps8
  go_upto_region 1 with fail
  rw [HW1.out, HH.out, show H + 1 + 1 = H + 2 from rfl]
  clear HW1
  go_wp2_with fail
  refine cB.mono ?_
  rintro _ w2 ⟨rfl, hb⟩
  have HB2 : Hid (Below W.heap.size W w2) := HR1.out.2.2.2.trans (hb.mono HR1.out.2.2.2.size)
  have HN2 : Hid (w2.heap[H]? = some (nodeRow esp elo (.slice ava avn avc) (.slice kva kn kvc) etx ln cl)) := (hb.block H (Go.lt_of_block HR1.out.1)).trans HR1.out.1
  have HL2 : Hid (w2.heap[H + 1]? = some (.cells #[.int .i64 l1, .int .i64 l2] 26 (0, 0))) := (hb.block (H + 1) (Go.lt_of_block HR1.out.2.1)).trans HR1.out.2.1
  have HZ2 : Hid (w2.heap[H + 2]? = some (.cells #[.int .i64 0, .int .i64 0] 26 (0, 0))) := (hb.block (H + 2) (Go.lt_of_block HR1.out.2.2.1)).trans HR1.out.2.2.1
  clear hb cB x0 x1 x2 x3 x4 x5 x6 y0 y1 HR1
  go_wp2_with fail
  go_loopw [7, 8, 9, 10] (fun v7 v8 v9 v10 wr => ∃ (x lx cx : Nat) (fb : Bool), v7 = .int .i64 lx ∧ v8 = .int .i64 cx ∧ v9 = .bool fb ∧ v10 = .int .i64 x ∧ wr = w2 ∧ Hid (x ≤ s.size ∧ (fb = false → x ≤ i ∧ lx = X.lineOf s.data.toList x ∧ cx = X.colOf s.data.toList x))) (fun _ _ _ v10 _ => s.size - (intOf v10).toNat)
  case atStart => exact ⟨0, 1, 1, false, rfl, rfl, rfl, rfl, rfl, hid ⟨Nat.zero_le _, fun _ => ⟨Nat.zero_le _, (X.line_zero _).symm, (X.col_zero _).symm⟩⟩⟩
  case round =>
    obtain ⟨x, lx, cx, fb, rfl, rfl, rfl, rfl, rfl, HX⟩ := hrel
    have hn2 := HN2.out
    unfold nodeRow at hn2
    obtain ⟨x0, x1, x2, x3, x4, x5, x6⟩ := row7 hn2
    cases fb with
    | false =>
      obtain ⟨hxi, hlx, hcx⟩ := HX.out.2 rfl
      have hxs : x < s.size := by omega
      have k0 : decide ((x : Int) < (s.size : Int)) = true := decide_eq_true (by omega)
      have k1 : decide (x < s.size) = true := decide_eq_true hxs
      have P0 : (0 : Int) ≤ (x : Int) := by omega
      have P1 : (x : Int) < (s.size : Int) := by omega
      have hb := byte_some hxs
      have hlnx := X.line_next hb
      have hcnx := X.col_next hb
      have hl1 := X.line_le s.data.toList x
      have hc1 := X.col_le s.data.toList x
      rw [← hlx] at hlnx hl1
      rw [← hcx] at hcnx hc1
      obtain ⟨xx, hxx⟩ : ∃ xx, x + 1 = xx := ⟨_, rfl⟩
      obtain ⟨lx1, hlx1⟩ : ∃ z, lx + 1 = z := ⟨_, rfl⟩
      obtain ⟨cx1, hcx1⟩ : ∃ z, cx + 1 = z := ⟨_, rfl⟩
      rw [hxx, hlx1] at hlnx
      rw [hxx, hcx1] at hcnx
      have e1 : IntKind.i64.wrap ((x : Int) + 1) = (xx : Int) := by rw [IntKind.wrap_i64] <;> omega
      have e2 : IntKind.i64.wrap ((lx : Int) + 1) = (lx1 : Int) := by rw [IntKind.wrap_i64] <;> omega
      have e3 : IntKind.i64.wrap ((cx : Int) + 1) = (cx1 : Int) := by rw [IntKind.wrap_i64] <;> omega
      have HXX : Hid (xx ≤ s.size ∧ s.size - xx < s.size - x) := by show _ ∧ _; omega
      by_cases hxi2 : x = i
      · have q1 : ((lx : Int) == (ln : Int)) = true := by rw [hlx, hxi2, ← HLN.out]; simp
        have q2 : ((cx : Int) == (cl : Int)) = true := by rw [hcx, hxi2, ← HCL.out]; simp
        obtain ⟨bt, hbt⟩ : ∃ bt, s[x]'hxs = bt := ⟨_, rfl⟩
        have hb60 : bt = 60 := by subst hxi2; rw [← hbt]; exact hc60
        have q3 : ((bt.toNat : Int) != 60) = false := by rw [hb60]; rfl
        have q4 : ((bt.toNat : Int) == 10) = false := by rw [hb60]; rfl
        have HXN : Hid (xx ≤ s.size ∧ (true = false → xx ≤ i ∧ lx = X.lineOf s.data.toList xx ∧ cx1 = X.colOf s.data.toList xx)) := ⟨HXX.out.1, fun h => by cases h⟩
        clear hlnx hcnx hl1 hc1 hlx hcx hxx hlx1 hcx1 hb hxi hxi2 hb60 hn2 HX
        go_wp2_with fail
        go_roundw
        case rel => exact ⟨xx, lx, cx1, true, by trivial, by trivial, by trivial, by trivial, by trivial, HXN⟩
        case measure => simpa [intOf] using HXX.out.2
      · have hxlt : x < i := by omega
        have hnel := at_ne_line (S := s.data.toList) (i := x) (j := i) (by rw [← Lib.size_eq]; omega) (by rw [← Lib.size_eq]; omega) hxi2
        rw [← hlx, ← hcx, ← HLN.out, ← HCL.out] at hnel
        have hcas : (¬ lx = ln) ∨ (lx = ln ∧ ¬ cx = cl) := by
          by_cases h : lx = ln
          · exact Or.inr ⟨h, hnel h⟩
          · exact Or.inl h
        obtain ⟨bt, hbt⟩ : ∃ bt, s[x]'hxs = bt := ⟨_, rfl⟩
        rw [hbt] at hlnx hcnx
        have HXI : Hid (xx ≤ i) := by show _ ≤ _; omega
        have hb10 : (bt = 10 ∧ ((bt.toNat : Int) == 10) = true) ∨ (¬ bt = 10 ∧ ((bt.toNat : Int) == 10) = false) := by
          by_cases h : bt = 10
          · exact Or.inl ⟨h, by rw [h]; rfl⟩
          · refine Or.inr ⟨h, ?_⟩
            rw [beq_eq_false_iff_ne]
            intro e
            exact h (UInt8.toNat.inj (by have : bt.toNat = 10 := by omega
                                         exact this))
        have HNX := hid hlnx
        have HCX := hid hcnx
        have HNEL := hid hcas
        have HB10 := hid hb10
        clear hlnx hcnx hl1 hc1 hlx hcx hxx hlx1 hcx1 hb hxi hxi2 hn2 HX hnel hcas hb10 hxlt
        rcases HNEL.out with h1 | ⟨h1, h2⟩
        · have q1 : ((lx : Int) == (ln : Int)) = false := beq_eq_false_iff_ne.2 (by omega)
          rcases HB10.out with ⟨h3, q4⟩ | ⟨h3, q4⟩
          · rw [if_pos h3] at HNX HCX
            have HXN : Hid (xx ≤ s.size ∧ (false = false → xx ≤ i ∧ lx1 = X.lineOf s.data.toList xx ∧ 1 = X.colOf s.data.toList xx)) := ⟨HXX.out.1, fun _ => ⟨HXI.out, HNX.out.symm, HCX.out.symm⟩⟩
            clear h3
            go_wp2_with fail
            go_roundw
            case rel => exact ⟨xx, lx1, 1, false, by trivial, by trivial, by trivial, by trivial, by trivial, HXN⟩
            case measure => simpa [intOf] using HXX.out.2
          · rw [if_neg h3] at HNX HCX
            have HXN : Hid (xx ≤ s.size ∧ (false = false → xx ≤ i ∧ lx = X.lineOf s.data.toList xx ∧ cx1 = X.colOf s.data.toList xx)) := ⟨HXX.out.1, fun _ => ⟨HXI.out, HNX.out.symm, HCX.out.symm⟩⟩
            clear h3
            go_wp2_with fail
            go_roundw
            case rel => exact ⟨xx, lx, cx1, false, by trivial, by trivial, by trivial, by trivial, by trivial, HXN⟩
            case measure => simpa [intOf] using HXX.out.2
        · have q1 : ((lx : Int) == (ln : Int)) = true := by rw [h1]; simp
          have q2 : ((cx : Int) == (cl : Int)) = false := beq_eq_false_iff_ne.2 (by omega)
          clear h1
          rcases HB10.out with ⟨h3, q4⟩ | ⟨h3, q4⟩
          · rw [if_pos h3] at HNX HCX
            have HXN : Hid (xx ≤ s.size ∧ (false = false → xx ≤ i ∧ lx1 = X.lineOf s.data.toList xx ∧ 1 = X.colOf s.data.toList xx)) := ⟨HXX.out.1, fun _ => ⟨HXI.out, HNX.out.symm, HCX.out.symm⟩⟩
            clear h3
            go_wp2_with fail
            go_roundw
            case rel => exact ⟨xx, lx1, 1, false, by trivial, by trivial, by trivial, by trivial, by trivial, HXN⟩
            case measure => simpa [intOf] using HXX.out.2
          · rw [if_neg h3] at HNX HCX
            have HXN : Hid (xx ≤ s.size ∧ (false = false → xx ≤ i ∧ lx = X.lineOf s.data.toList xx ∧ cx1 = X.colOf s.data.toList xx)) := ⟨HXX.out.1, fun _ => ⟨HXI.out, HNX.out.symm, HCX.out.symm⟩⟩
            clear h3
            go_wp2_with fail
            go_roundw
            case rel => exact ⟨xx, lx, cx1, false, by trivial, by trivial, by trivial, by trivial, by trivial, HXN⟩
            case measure => simpa [intOf] using HXX.out.2
    | true =>
      have hf1 := rowFree HL2.out 0
      have hf2 := rowFree HL2.out 1
      obtain ⟨y0, y1⟩ := row2 HL2.out
      obtain ⟨w3, hw3⟩ : ∃ w3, (wr.setCell ⟨H + 1, 0, none⟩ (.int .i64 ln)).setCell ⟨H + 1, 1, none⟩ (.int .i64 cl) = w3 := ⟨_, rfl⟩
      have g3 : wr.grownBy w3 (some (H + 1)) := by rw [← hw3]; exact (grownBy_set wr (H + 1) 0 _).trans (grownBy_set _ (H + 1) 1 _)
      have HN3 : Hid (w3.heap[H]? = some (nodeRow esp elo (.slice ava avn avc) (.slice kva kn kvc) etx ln cl)) := (g3.block H (Go.lt_of_block HN2.out) (fun e => by have := Option.some.inj e; omega)).trans HN2.out
      have HZ3 : Hid (w3.heap[H + 2]? = some (.cells #[.int .i64 0, .int .i64 0] 26 (0, 0))) := (g3.block (H + 2) (Go.lt_of_block HZ2.out) (fun e => by have := Option.some.inj e; omega)).trans HZ2.out
      have HL3 : Hid (w3.heap[H + 1]? = some (.cells #[.int .i64 (X.lineOf s.data.toList i), .int .i64 (X.colOf s.data.toList i)] 26 (0, 0))) := by show _ = _; rw [← hw3, ← HLN.out, ← HCL.out]; exact row_set (row_set HL2.out 0 _) 1 _
      have HB3 : Hid (Below W.heap.size W w3) := HB2.out.grown g3 HB2.out.size (fun k hk => by have := Option.some.inj hk; have := HH.out; omega)
      have HW3 := hid hw3
      have hxd : (x < s.size ∧ decide ((x : Int) < (s.size : Int)) = true ∧ decide (x < s.size) = true) ∨ (¬ x < s.size ∧ decide ((x : Int) < (s.size : Int)) = false ∧ decide (x < s.size) = false) := by
        by_cases h : x < s.size
        · exact Or.inl ⟨h, decide_eq_true (by omega), decide_eq_true h⟩
        · exact Or.inr ⟨h, decide_eq_false (by omega), decide_eq_false h⟩
      clear hw3 g3 hn2
      rcases hxd with ⟨-, k0, k1⟩ | ⟨-, k0, k1⟩
      · go_upto_region 16 with fail
        rw [HW3.out]
        clear k0 k1 x0 x1 x2 x3 x4 x5 x6 y0 y1 hf1 hf2 HW3
        go_wp2_with fail
        go_loopw [9, 11] (fun v9 v11 wr => ∃ (k j : Nat) (a t : X.N) (mm : Nat), v9 = .bool true ∧ v11 = .int .i64 k ∧ Hid (a.app t = e.ks ∧ a.length = k ∧ X.Chain s.data.toList mm t m ∧ i ≤ j ∧ j < mm) ∧ Hid (wr.heap[H]? = some (nodeRow esp elo (.slice ava avn avc) (.slice kva kn kvc) etx ln cl)) ∧ Hid (wr.heap[H + 1]? = some (.cells #[.int .i64 (X.lineOf s.data.toList j), .int .i64 (X.colOf s.data.toList j)] 26 (0, 0))) ∧ Hid (wr.heap[H + 2]? = some (.cells #[.int .i64 0, .int .i64 0] 26 (0, 0))) ∧ Hid (Below W.heap.size W wr)) (fun _ v11 _ => kn - (intOf v11).toNat)
        case atStart => exact ⟨0, i, .nil, e.ks, i + 1, rfl, rfl, hid ⟨rfl, rfl, HCH.out, Nat.le_refl _, Nat.lt_succ_self _⟩, HN3, HL3, HZ3, HB3⟩
        case round =>
          obtain ⟨k, j0, a, t, mm, rfl, rfl, HJ, HNr, HL, HZr, HBr⟩ := hrel
          clear HN3 HL3 HZ3 HB3
          have hnr := HNr.out
          unfold nodeRow at hnr
          obtain ⟨x0, x1, x2, x3, x4, x5, x6⟩ := row7 hnr
          obtain ⟨y0, y1⟩ := row2 HL.out
          have hlen : a.length + t.length = kn := by rw [← HKN.out, ← HJ.out.1, X.N.app_length]
          clear hnr
          cases t with
          | nil =>
            have hk := HJ.out.2.1
            have hkk : k = kn := by rw [← hlen, hk]; rfl
            have t0 : decide ((k : Int) < (kn : Int)) = false := decide_eq_false (by omega)
            have t1 : decide (k < kn) = false := decide_eq_false (by omega)
            obtain ⟨z0, z1⟩ := row2 HZr.out
            have fz0 := rowFree HZr.out 0
            have fz1 := rowFree HZr.out 1
            have hw : W.heap.size ≤ H + 2 := by have := HH.out; omega
            have HJM : Hid (i ≤ j0 ∧ j0 < m) := ⟨HJ.out.2.2.2.1, Nat.lt_of_lt_of_le HJ.out.2.2.2.2 HJ.out.2.2.1⟩
            clear hk hkk hlen
            go_wp2_with fail
            exact bodyPost_ret (v := posAgg (X.at_ s.data.toList j0)) (results_cell_row rfl _ _ (H + 2) 26 _ (0, 0) _ rfl (row_set (row_set HZr.out 0 _) 1 _) Tryz.underlying26 rfl infoPos) rfl ⟨⟨j0, HJM.out.1, HJM.out.2, rfl⟩, (HBr.out.setCell (p := ⟨H + 2, 0, none⟩) hw _).setCell (p := ⟨H + 2, 1, none⟩) hw _⟩
          | cons ksp klo kal kks ktx kln kcl kr =>
            have hk := HJ.out.2.1
            have hlt : k < kn := by rw [← hlen, hk]; simp [X.N.length]
            have t0 : decide ((k : Int) < (kn : Int)) = true := decide_eq_true (by omega)
            have t1 : decide (k < kn) = true := decide_eq_true hlt
            obtain ⟨rfl, hcap, hAt⟩ := HKS.out (by omega)
            have hAt2 : (X.N.cons ksp klo kal kks ktx kln kcl kr).At W P g (o + 7 * k) := by
              have := X.N.At.suffix a (.cons ksp klo kal kks ktx kln kcl kr) g o (by rw [HJ.out.1]; exact hAt)
              rw [hk] at this; exact this
            obtain ⟨hPg, k0, k1, ⟨kav, k2, hkav⟩, ⟨kkv, k3, hkkv⟩, k4, k5, k6, -⟩ := hAt2
            have hgW := HPW.out g hPg
            obtain ⟨kva1, kvc1, rfl⟩ := hkav.shape
            obtain ⟨kkva, kkvc, rfl⟩ := (show kks.In W P kkv from hkkv).shape
            have hkks : kks.In W P (.slice kkva kks.length kkvc) := hkkv
            obtain ⟨jk, mk, hjm, hj60, hjl, hjc, hjch, hrest⟩ := HJ.out.2.2.1
            have hsz : kks.sz < n := by
              have h1 := HN.out
              rw [← HJ.out.1, X.N.sz_app] at h1
              simp only [X.N.sz] at h1
              omega
            have hmk : mk ≤ s.size := by have := hrest.le; have := HM.out; omega
            have hjs : jk < s.data.toList.length := (List.getElem?_eq_some_iff.1 hj60).1
            have HCALL : Hid (Calls Tryz.prog 8 #[.string s, .agg #[.string ksp, .string klo, .slice kva1 kal.length kvc1, .slice kkva kks.length kkvc, .string ktx, .int .i64 kln, .int .i64 kcl], .agg #[.int .i64 (X.lineOf s.data.toList j0), .int .i64 (X.colOf s.data.toList j0)]] wr.drew fun en W' => (∃ j, jk ≤ j ∧ j < mk ∧ en = .returned (posAgg (X.at_ s.data.toList j))) ∧ Below wr.drew.heap.size wr.drew W') := by
              have hb4 := HBr.out.drew
              refine HIH.out kks.sz hsz ⟨ksp, klo, kal, kks, ktx, kln, kcl⟩ (Nat.le_refl _) wr.drew P _ (X.at_ s.data.toList j0) jk mk ⟨_, _, rfl, X.AIn.keep (fun b h => h) (fun b h => hb4.block b (HPW.out b h)) hkav, X.N.In.keep (fun b h => h) (fun b h => hb4.block b (HPW.out b h)) hkks⟩ (fun b h => Nat.lt_of_lt_of_le (HPW.out b h) hb4.size) hj60 hjl hjc hjch hmk (X.ahead_of (by have := HJ.out; omega) (by omega))
            have kc : ∀ q u, W.cell? ⟨g, q, none⟩ = some u → wr.cell? ⟨g, q, none⟩ = some u := fun q u h => (HBr.out.cell (p := ⟨g, q, none⟩) hgW).trans h
            obtain ⟨ok, hok⟩ : ∃ ok, o + 7 * k = ok := ⟨_, rfl⟩
            rw [hok] at k0 k1 k2 k3 k4 k5 k6
            replace k0 := kc _ _ k0
            replace k1 := kc _ _ k1
            replace k2 := kc _ _ k2
            replace k3 := kc _ _ k3
            replace k4 := kc _ _ k4
            replace k5 := kc _ _ k5
            replace k6 := kc _ _ k6
            have HREST : Hid (X.Chain s.data.toList mk kr m ∧ mm ≤ jk) := ⟨hrest, hjm⟩
            have HOK : Hid (o + k * 7 = ok) := by show _ = _; omega
            have hok2 := HOK.out
            obtain ⟨kk1, hkk1⟩ : ∃ kk1, k + 1 = kk1 := ⟨_, rfl⟩
            have e1 : IntKind.i64.wrap ((k : Int) + 1) = (kk1 : Int) := by
              have h1 := HKN.out
              have h2 := HM.out
              have h3 := chain_len HCH.out
              rw [IntKind.wrap_i64] <;> omega
            clear kc hPg hgW hkav hkkv hkks hjm hj60 hjl hjc hjch hrest hsz hmk hjs hAt hok
            go_upto_region 19 with fail
            refine wp_region_till (S := (fun w : World => w.heap = wr.heap)) 7 (by kernel_rfl) ?_
            have HS := hid (show ((fun w : World => w.heap = wr.heap)) _ from rfl)
            refine wpTill_any 0 (oi := ?oi1) (v := ?v1) ?ho1 (by kernel_rfl) (by kernel_rfl) (by kernel_rfl) (by kernel_rfl) ?hq1 (Or.inl ⟨?hw1, ?hy1⟩) (fun _ => HS.out) ?rest1
            case ho1 => simp only [List.getElem?_toArray, List.getElem?_cons_zero]; rfl
            case hw1 => rfl
            case hy1 => intro w; go_simp; try with_reducible rfl
            case hq1 => exact fun _ _ _ h => h
            try simp only [Act.put, List.setIfInBounds_toArray, List.set_cons_zero, List.set_cons_succ]
            refine wpTill_any 1 (oi := ?oi2) (v := ?v2) ?ho2 (by kernel_rfl) (by kernel_rfl) (by kernel_rfl) (by kernel_rfl) ?hq2 (Or.inl ⟨?hw2, ?hy2⟩) (fun _ => HS.out) ?rest2
            case ho2 => simp only [List.getElem?_toArray, List.getElem?_cons_succ, List.getElem?_cons_zero]; rfl
            case hw2 => rfl
            case hy2 => intro w; go_simp; try with_reducible rfl
            case hq2 => exact fun _ _ _ h => h
            try simp only [Act.put, List.setIfInBounds_toArray, List.set_cons_zero, List.set_cons_succ]
            refine wpTill_any 3 (oi := ?oi3) (v := ?v3) ?ho3 (by kernel_rfl) (by kernel_rfl) (by kernel_rfl) (by kernel_rfl) ?hq3 (Or.inl ⟨?hw3, ?hy3⟩) (fun _ => HS.out) ?rest3
            case ho3 => simp only [List.getElem?_toArray, List.getElem?_cons_succ, List.getElem?_cons_zero]; rfl
            case hw3 => rfl
            case hy3 => intro w; go_simp; try with_reducible rfl
            case hq3 => exact fun _ _ _ h => h
            try simp only [Act.put, List.setIfInBounds_toArray, List.set_cons_zero, List.set_cons_succ]
            refine wpTill_load 2 [2, 4, 5, 7] (oi := ?oi4) (v := ?v4) ?ho4 (by kernel_rfl) (by kernel_rfl) (by kernel_rfl) (by kernel_rfl) ?hq4 (Or.inl ⟨?hw4, ?hy4⟩) HS.out ?rest4
            case ho4 => simp only [List.getElem?_toArray, List.getElem?_cons_succ, List.getElem?_cons_zero]; rfl
            case hw4 => rfl
            case hy4 =>
              intro w hSw
              have c3 := (World.cell?_of_block (w := wr) (a := ⟨H, 3, none⟩) (w' := w) (by rw [hSw])).trans x3
              clear hSw
              go_simp
              try with_reducible rfl
            case hq4 => exact fun _ _ _ h => h
            try simp only [Act.put, List.setIfInBounds_toArray, List.set_cons_zero, List.set_cons_succ]
            refine wpTill_any 4 (oi := ?oi5) (v := ?v5) ?ho5 (by kernel_rfl) (by kernel_rfl) (by kernel_rfl) (by kernel_rfl) ?hq5 (Or.inl ⟨?hw5, ?hy5⟩) (fun _ => HS.out) ?rest5
            case ho5 => simp only [List.getElem?_toArray, List.getElem?_cons_succ, List.getElem?_cons_zero]; rfl
            case hw5 => rfl
            case hy5 => intro w; go_simp; try with_reducible rfl
            case hq5 => exact fun _ _ _ h => h
            try simp only [Act.put, List.setIfInBounds_toArray, List.set_cons_zero, List.set_cons_succ]
            refine wpTill_load 5 [5, 7] (oi := ?oi6) (v := ?v6) ?ho6 (by kernel_rfl) (by kernel_rfl) (by kernel_rfl) (by kernel_rfl) ?hq6 (Or.inl ⟨?hw6, ?hy6⟩) HS.out ?rest6
            case ho6 => simp only [List.getElem?_toArray, List.getElem?_cons_succ, List.getElem?_cons_zero]; rfl
            case hw6 => rfl
            case hy6 =>
              intro w hSw
              have c0 := (World.cell?_of_block (w := wr) (a := ⟨g, ok, none⟩) (w' := w) (by rw [hSw])).trans k0
              have c1 := (World.cell?_of_block (w := wr) (a := ⟨g, ok + 1, none⟩) (w' := w) (by rw [hSw])).trans k1
              have c2 := (World.cell?_of_block (w := wr) (a := ⟨g, ok + 2, none⟩) (w' := w) (by rw [hSw])).trans k2
              have c3 := (World.cell?_of_block (w := wr) (a := ⟨g, ok + 3, none⟩) (w' := w) (by rw [hSw])).trans k3
              have c4 := (World.cell?_of_block (w := wr) (a := ⟨g, ok + 4, none⟩) (w' := w) (by rw [hSw])).trans k4
              have c5 := (World.cell?_of_block (w := wr) (a := ⟨g, ok + 5, none⟩) (w' := w) (by rw [hSw])).trans k5
              have c6 := (World.cell?_of_block (w := wr) (a := ⟨g, ok + 6, none⟩) (w' := w) (by rw [hSw])).trans k6
              clear hSw
              go_simp
              try with_reducible rfl
            case hq6 => exact fun _ _ _ h => h
            try simp only [Act.put, List.setIfInBounds_toArray, List.set_cons_zero, List.set_cons_succ]
            refine wpTill_load 6 [6, 7] (oi := ?oi7) (v := ?v7) ?ho7 (by kernel_rfl) (by kernel_rfl) (by kernel_rfl) (by kernel_rfl) ?hq7 (Or.inl ⟨?hw7, ?hy7⟩) HS.out ?rest7
            case ho7 => simp only [List.getElem?_toArray, List.getElem?_cons_succ, List.getElem?_cons_zero]; rfl
            case hw7 => rfl
            case hy7 =>
              intro w hSw
              have c0 := (World.cell?_of_block (w := wr) (a := ⟨H + 1, 0, none⟩) (w' := w) (by rw [hSw])).trans y0
              have c1 := (World.cell?_of_block (w := wr) (a := ⟨H + 1, 1, none⟩) (w' := w) (by rw [hSw])).trans y1
              clear hSw
              go_simp
              try with_reducible rfl
            case hq7 => exact fun _ _ _ h => h
            try simp only [Act.put, List.setIfInBounds_toArray, List.set_cons_zero, List.set_cons_succ]
            refine wpTill_ready (rs := [7]) (by kernel_rfl) (by decide) ?_
            refine AllTill.consH (o := ?oi8) ?ho8 (fun K hK => ?step8) ?more8
            case ho8 => simp only [List.getElem?_toArray, List.getElem?_cons_succ, List.getElem?_cons_zero]; rfl
            case step8 =>
              go_simp
              refine (HCALL.out).mono ?_
              rintro _ w5 ⟨⟨j2, hj1, hj2, rfl⟩, hb5⟩
              have HJ2 : Hid (jk ≤ j2 ∧ j2 < mk) := ⟨hj1, hj2⟩
              have HB5 : Hid (Below wr.heap.size wr w5) := (Below.refl _ wr).drew.trans hb5
              have HL5 : Hid (w5.heap[H + 1]? = some (.cells #[.int .i64 (X.lineOf s.data.toList j0), .int .i64 (X.colOf s.data.toList j0)] 26 (0, 0))) := (HB5.out.block (H + 1) (Go.lt_of_block HL.out)).trans HL.out
              obtain ⟨v0, v1⟩ := row2 HL5.out
              have fv0 := rowFree HL5.out 0
              have fv1 := rowFree HL5.out 1
              unfold posAgg X.at_
              clear hb5 hj1 hj2
              try dsimp only
              refine hK.out _ _ (fun hk => by cases (show true = false from hk)) (fun _ => ?_)
              clear hK K
              try simp only [Act.put, List.setIfInBounds_toArray, List.set_cons_zero, List.set_cons_succ]
              refine wpTill_ready (rs := [8]) (by kernel_rfl) (by decide) ?_
              refine AllTill.consH (o := ?oi9) ?ho9 (fun K hK => ?step9) ?more9
              case ho9 => simp only [List.getElem?_toArray, List.getElem?_cons_succ, List.getElem?_cons_zero]; rfl
              case step9 =>
                go_simp
                refine hK.out _ _ (fun hk => by cases (show true = false from hk)) (fun _ => ?_)
                clear hK K
                try simp only [Act.put, List.setIfInBounds_toArray, List.set_cons_zero, List.set_cons_succ]
                refine wpTill_done (by kernel_rfl) ?_ _
                obtain ⟨w6, hw6⟩ : ∃ w6, (w5.setCell ⟨H + 1, 0, none⟩ (.int .i64 (X.lineOf s.data.toList j2))).setCell ⟨H + 1, 1, none⟩ (.int .i64 (X.colOf s.data.toList j2)) = w6 := ⟨_, rfl⟩
                have g6 : w5.grownBy w6 (some (H + 1)) := by rw [← hw6]; exact (grownBy_set w5 (H + 1) 0 _).trans (grownBy_set _ (H + 1) 1 _)
                have HL6 : Hid (w6.heap[H + 1]? = some (.cells #[.int .i64 (X.lineOf s.data.toList j2), .int .i64 (X.colOf s.data.toList j2)] 26 (0, 0))) := by show _ = _; rw [← hw6]; exact row_set (row_set HL5.out 0 _) 1 _
                have HN6 : Hid (w6.heap[H]? = some (nodeRow esp elo (.slice ava avn avc) (.slice (some ⟨g, o, none⟩) kn kvc) etx ln cl)) := (g6.block H (by have := HB5.out.size; have := Go.lt_of_block HNr.out; omega) (fun e => by have := Option.some.inj e; omega)).trans ((HB5.out.block H (Go.lt_of_block HNr.out)).trans HNr.out)
                have HZ6 : Hid (w6.heap[H + 2]? = some (.cells #[.int .i64 0, .int .i64 0] 26 (0, 0))) := (g6.block (H + 2) (by have := HB5.out.size; have := Go.lt_of_block HZr.out; omega) (fun e => by have := Option.some.inj e; omega)).trans ((HB5.out.block (H + 2) (Go.lt_of_block HZr.out)).trans HZr.out)
                have HB6 : Hid (Below W.heap.size W w6) := (HBr.out.trans (HB5.out.mono HBr.out.size)).grown g6 (by have := HBr.out.size; have := HB5.out.size; omega) (fun k hk => by have := Option.some.inj hk; have := HH.out; omega)
                have hlp := X.line_pos s.data.toList j2
                have q1 : ((X.lineOf s.data.toList j2 : Int) == 0) = false := beq_eq_false_iff_ne.2 (by omega)
                obtain ⟨z0, z1⟩ := row2 HL6.out
                have HW6 := hid hw6
                clear hw6 g6 hlp v0 v1 fv0 fv1 x0 x1 x2 x3 x4 x5 x6 y0 y1 k0 k1 k2 k3 k4 k5 k6
                go_upto_region 20 with fail
                rw [HW6.out]
                clear HW6
                obtain ⟨lj, hlj⟩ : ∃ lj, X.lineOf s.data.toList j2 = lj := ⟨_, rfl⟩
                obtain ⟨cj, hcj⟩ : ∃ cj, X.colOf s.data.toList j2 = cj := ⟨_, rfl⟩
                rw [hlj] at q1 z0 ⊢
                rw [hcj] at z1 ⊢
                have HJN : Hid ((a.app (.cons ksp klo kal kks ktx kln kcl .nil)).app kr = e.ks ∧ (a.app (.cons ksp klo kal kks ktx kln kcl .nil)).length = kk1 ∧ X.Chain s.data.toList mk kr m ∧ i ≤ j2 ∧ j2 < mk) := by
                  refine ⟨(X.N.app_one a ksp klo kal kks ktx kln kcl kr).trans HJ.out.1, ?_, HREST.out.1, by have := HREST.out.2; have := HJ2.out.1; have := HJ.out.2.2.2; omega, HJ2.out.2⟩
                  rw [X.N.app_length, hk, ← hkk1]
                  rfl
                have HMS : Hid (kn - kk1 < kn - k) := by show _ < _; omega
                clear hlj hcj hkk1
                go_wp2_with fail
                go_roundw
                case rel => exact ⟨kk1, j2, _, kr, mk, rfl, rfl, HJN, HN6, HL6, HZ6, HB6⟩
                case measure => simpa [intOf] using HMS.out
              case more9 =>
                exact AllTill.nil
            case more8 =>
              exact AllTill.nil
      · go_upto_region 16 with fail
        rw [HW3.out]
        clear k0 k1 x0 x1 x2 x3 x4 x5 x6 y0 y1 hf1 hf2 HW3
        go_wp2_with fail
        go_loopw [9, 11] (fun v9 v11 wr => ∃ (k j : Nat) (a t : X.N) (mm : Nat), v9 = .bool true ∧ v11 = .int .i64 k ∧ Hid (a.app t = e.ks ∧ a.length = k ∧ X.Chain s.data.toList mm t m ∧ i ≤ j ∧ j < mm) ∧ Hid (wr.heap[H]? = some (nodeRow esp elo (.slice ava avn avc) (.slice kva kn kvc) etx ln cl)) ∧ Hid (wr.heap[H + 1]? = some (.cells #[.int .i64 (X.lineOf s.data.toList j), .int .i64 (X.colOf s.data.toList j)] 26 (0, 0))) ∧ Hid (wr.heap[H + 2]? = some (.cells #[.int .i64 0, .int .i64 0] 26 (0, 0))) ∧ Hid (Below W.heap.size W wr)) (fun _ v11 _ => kn - (intOf v11).toNat)
        case atStart => exact ⟨0, i, .nil, e.ks, i + 1, rfl, rfl, hid ⟨rfl, rfl, HCH.out, Nat.le_refl _, Nat.lt_succ_self _⟩, HN3, HL3, HZ3, HB3⟩
        case round =>
          obtain ⟨k, j0, a, t, mm, rfl, rfl, HJ, HNr, HL, HZr, HBr⟩ := hrel
          clear HN3 HL3 HZ3 HB3
          have hnr := HNr.out
          unfold nodeRow at hnr
          obtain ⟨x0, x1, x2, x3, x4, x5, x6⟩ := row7 hnr
          obtain ⟨y0, y1⟩ := row2 HL.out
          have hlen : a.length + t.length = kn := by rw [← HKN.out, ← HJ.out.1, X.N.app_length]
          clear hnr
          cases t with
          | nil =>
            have hk := HJ.out.2.1
            have hkk : k = kn := by rw [← hlen, hk]; rfl
            have t0 : decide ((k : Int) < (kn : Int)) = false := decide_eq_false (by omega)
            have t1 : decide (k < kn) = false := decide_eq_false (by omega)
            obtain ⟨z0, z1⟩ := row2 HZr.out
            have fz0 := rowFree HZr.out 0
            have fz1 := rowFree HZr.out 1
            have hw : W.heap.size ≤ H + 2 := by have := HH.out; omega
            have HJM : Hid (i ≤ j0 ∧ j0 < m) := ⟨HJ.out.2.2.2.1, Nat.lt_of_lt_of_le HJ.out.2.2.2.2 HJ.out.2.2.1⟩
            clear hk hkk hlen
            go_wp2_with fail
            exact bodyPost_ret (v := posAgg (X.at_ s.data.toList j0)) (results_cell_row rfl _ _ (H + 2) 26 _ (0, 0) _ rfl (row_set (row_set HZr.out 0 _) 1 _) Tryz.underlying26 rfl infoPos) rfl ⟨⟨j0, HJM.out.1, HJM.out.2, rfl⟩, (HBr.out.setCell (p := ⟨H + 2, 0, none⟩) hw _).setCell (p := ⟨H + 2, 1, none⟩) hw _⟩
          | cons ksp klo kal kks ktx kln kcl kr =>
            have hk := HJ.out.2.1
            have hlt : k < kn := by rw [← hlen, hk]; simp [X.N.length]
            have t0 : decide ((k : Int) < (kn : Int)) = true := decide_eq_true (by omega)
            have t1 : decide (k < kn) = true := decide_eq_true hlt
            obtain ⟨rfl, hcap, hAt⟩ := HKS.out (by omega)
            have hAt2 : (X.N.cons ksp klo kal kks ktx kln kcl kr).At W P g (o + 7 * k) := by
              have := X.N.At.suffix a (.cons ksp klo kal kks ktx kln kcl kr) g o (by rw [HJ.out.1]; exact hAt)
              rw [hk] at this; exact this
            obtain ⟨hPg, k0, k1, ⟨kav, k2, hkav⟩, ⟨kkv, k3, hkkv⟩, k4, k5, k6, -⟩ := hAt2
            have hgW := HPW.out g hPg
            obtain ⟨kva1, kvc1, rfl⟩ := hkav.shape
            obtain ⟨kkva, kkvc, rfl⟩ := (show kks.In W P kkv from hkkv).shape
            have hkks : kks.In W P (.slice kkva kks.length kkvc) := hkkv
            obtain ⟨jk, mk, hjm, hj60, hjl, hjc, hjch, hrest⟩ := HJ.out.2.2.1
            have hsz : kks.sz < n := by
              have h1 := HN.out
              rw [← HJ.out.1, X.N.sz_app] at h1
              simp only [X.N.sz] at h1
              omega
            have hmk : mk ≤ s.size := by have := hrest.le; have := HM.out; omega
            have hjs : jk < s.data.toList.length := (List.getElem?_eq_some_iff.1 hj60).1
            have HCALL : Hid (Calls Tryz.prog 8 #[.string s, .agg #[.string ksp, .string klo, .slice kva1 kal.length kvc1, .slice kkva kks.length kkvc, .string ktx, .int .i64 kln, .int .i64 kcl], .agg #[.int .i64 (X.lineOf s.data.toList j0), .int .i64 (X.colOf s.data.toList j0)]] wr.drew fun en W' => (∃ j, jk ≤ j ∧ j < mk ∧ en = .returned (posAgg (X.at_ s.data.toList j))) ∧ Below wr.drew.heap.size wr.drew W') := by
              have hb4 := HBr.out.drew
              refine HIH.out kks.sz hsz ⟨ksp, klo, kal, kks, ktx, kln, kcl⟩ (Nat.le_refl _) wr.drew P _ (X.at_ s.data.toList j0) jk mk ⟨_, _, rfl, X.AIn.keep (fun b h => h) (fun b h => hb4.block b (HPW.out b h)) hkav, X.N.In.keep (fun b h => h) (fun b h => hb4.block b (HPW.out b h)) hkks⟩ (fun b h => Nat.lt_of_lt_of_le (HPW.out b h) hb4.size) hj60 hjl hjc hjch hmk (X.ahead_of (by have := HJ.out; omega) (by omega))
            have kc : ∀ q u, W.cell? ⟨g, q, none⟩ = some u → wr.cell? ⟨g, q, none⟩ = some u := fun q u h => (HBr.out.cell (p := ⟨g, q, none⟩) hgW).trans h
            obtain ⟨ok, hok⟩ : ∃ ok, o + 7 * k = ok := ⟨_, rfl⟩
            rw [hok] at k0 k1 k2 k3 k4 k5 k6
            replace k0 := kc _ _ k0
            replace k1 := kc _ _ k1
            replace k2 := kc _ _ k2
            replace k3 := kc _ _ k3
            replace k4 := kc _ _ k4
            replace k5 := kc _ _ k5
            replace k6 := kc _ _ k6
            have HREST : Hid (X.Chain s.data.toList mk kr m ∧ mm ≤ jk) := ⟨hrest, hjm⟩
            have HOK : Hid (o + k * 7 = ok) := by show _ = _; omega
            have hok2 := HOK.out
            obtain ⟨kk1, hkk1⟩ : ∃ kk1, k + 1 = kk1 := ⟨_, rfl⟩
            have e1 : IntKind.i64.wrap ((k : Int) + 1) = (kk1 : Int) := by
              have h1 := HKN.out
              have h2 := HM.out
              have h3 := chain_len HCH.out
              rw [IntKind.wrap_i64] <;> omega
            clear kc hPg hgW hkav hkkv hkks hjm hj60 hjl hjc hjch hrest hsz hmk hjs hAt hok
            go_upto_region 19 with fail
            refine wp_region_till (S := (fun w : World => w.heap = wr.heap)) 7 (by kernel_rfl) ?_
            have HS := hid (show ((fun w : World => w.heap = wr.heap)) _ from rfl)
            refine wpTill_any 0 (oi := ?oi10) (v := ?v10) ?ho10 (by kernel_rfl) (by kernel_rfl) (by kernel_rfl) (by kernel_rfl) ?hq10 (Or.inl ⟨?hw10, ?hy10⟩) (fun _ => HS.out) ?rest10
            case ho10 => simp only [List.getElem?_toArray, List.getElem?_cons_zero]; rfl
            case hw10 => rfl
            case hy10 => intro w; go_simp; try with_reducible rfl
            case hq10 => exact fun _ _ _ h => h
            try simp only [Act.put, List.setIfInBounds_toArray, List.set_cons_zero, List.set_cons_succ]
            refine wpTill_any 1 (oi := ?oi11) (v := ?v11) ?ho11 (by kernel_rfl) (by kernel_rfl) (by kernel_rfl) (by kernel_rfl) ?hq11 (Or.inl ⟨?hw11, ?hy11⟩) (fun _ => HS.out) ?rest11
            case ho11 => simp only [List.getElem?_toArray, List.getElem?_cons_succ, List.getElem?_cons_zero]; rfl
            case hw11 => rfl
            case hy11 => intro w; go_simp; try with_reducible rfl
            case hq11 => exact fun _ _ _ h => h
            try simp only [Act.put, List.setIfInBounds_toArray, List.set_cons_zero, List.set_cons_succ]
            refine wpTill_any 3 (oi := ?oi12) (v := ?v12) ?ho12 (by kernel_rfl) (by kernel_rfl) (by kernel_rfl) (by kernel_rfl) ?hq12 (Or.inl ⟨?hw12, ?hy12⟩) (fun _ => HS.out) ?rest12
            case ho12 => simp only [List.getElem?_toArray, List.getElem?_cons_succ, List.getElem?_cons_zero]; rfl
            case hw12 => rfl
            case hy12 => intro w; go_simp; try with_reducible rfl
            case hq12 => exact fun _ _ _ h => h
            try simp only [Act.put, List.setIfInBounds_toArray, List.set_cons_zero, List.set_cons_succ]
            refine wpTill_load 2 [2, 4, 5, 7] (oi := ?oi13) (v := ?v13) ?ho13 (by kernel_rfl) (by kernel_rfl) (by kernel_rfl) (by kernel_rfl) ?hq13 (Or.inl ⟨?hw13, ?hy13⟩) HS.out ?rest13
            case ho13 => simp only [List.getElem?_toArray, List.getElem?_cons_succ, List.getElem?_cons_zero]; rfl
            case hw13 => rfl
            case hy13 =>
              intro w hSw
              have c3 := (World.cell?_of_block (w := wr) (a := ⟨H, 3, none⟩) (w' := w) (by rw [hSw])).trans x3
              clear hSw
              go_simp
              try with_reducible rfl
            case hq13 => exact fun _ _ _ h => h
            try simp only [Act.put, List.setIfInBounds_toArray, List.set_cons_zero, List.set_cons_succ]
            refine wpTill_any 4 (oi := ?oi14) (v := ?v14) ?ho14 (by kernel_rfl) (by kernel_rfl) (by kernel_rfl) (by kernel_rfl) ?hq14 (Or.inl ⟨?hw14, ?hy14⟩) (fun _ => HS.out) ?rest14
            case ho14 => simp only [List.getElem?_toArray, List.getElem?_cons_succ, List.getElem?_cons_zero]; rfl
            case hw14 => rfl
            case hy14 => intro w; go_simp; try with_reducible rfl
            case hq14 => exact fun _ _ _ h => h
            try simp only [Act.put, List.setIfInBounds_toArray, List.set_cons_zero, List.set_cons_succ]
            refine wpTill_load 5 [5, 7] (oi := ?oi15) (v := ?v15) ?ho15 (by kernel_rfl) (by kernel_rfl) (by kernel_rfl) (by kernel_rfl) ?hq15 (Or.inl ⟨?hw15, ?hy15⟩) HS.out ?rest15
            case ho15 => simp only [List.getElem?_toArray, List.getElem?_cons_succ, List.getElem?_cons_zero]; rfl
            case hw15 => rfl
            case hy15 =>
              intro w hSw
              have c0 := (World.cell?_of_block (w := wr) (a := ⟨g, ok, none⟩) (w' := w) (by rw [hSw])).trans k0
              have c1 := (World.cell?_of_block (w := wr) (a := ⟨g, ok + 1, none⟩) (w' := w) (by rw [hSw])).trans k1
              have c2 := (World.cell?_of_block (w := wr) (a := ⟨g, ok + 2, none⟩) (w' := w) (by rw [hSw])).trans k2
              have c3 := (World.cell?_of_block (w := wr) (a := ⟨g, ok + 3, none⟩) (w' := w) (by rw [hSw])).trans k3
              have c4 := (World.cell?_of_block (w := wr) (a := ⟨g, ok + 4, none⟩) (w' := w) (by rw [hSw])).trans k4
              have c5 := (World.cell?_of_block (w := wr) (a := ⟨g, ok + 5, none⟩) (w' := w) (by rw [hSw])).trans k5
              have c6 := (World.cell?_of_block (w := wr) (a := ⟨g, ok + 6, none⟩) (w' := w) (by rw [hSw])).trans k6
              clear hSw
              go_simp
              try with_reducible rfl
            case hq15 => exact fun _ _ _ h => h
            try simp only [Act.put, List.setIfInBounds_toArray, List.set_cons_zero, List.set_cons_succ]
            refine wpTill_load 6 [6, 7] (oi := ?oi16) (v := ?v16) ?ho16 (by kernel_rfl) (by kernel_rfl) (by kernel_rfl) (by kernel_rfl) ?hq16 (Or.inl ⟨?hw16, ?hy16⟩) HS.out ?rest16
            case ho16 => simp only [List.getElem?_toArray, List.getElem?_cons_succ, List.getElem?_cons_zero]; rfl
            case hw16 => rfl
            case hy16 =>
              intro w hSw
              have c0 := (World.cell?_of_block (w := wr) (a := ⟨H + 1, 0, none⟩) (w' := w) (by rw [hSw])).trans y0
              have c1 := (World.cell?_of_block (w := wr) (a := ⟨H + 1, 1, none⟩) (w' := w) (by rw [hSw])).trans y1
              clear hSw
              go_simp
              try with_reducible rfl
            case hq16 => exact fun _ _ _ h => h
            try simp only [Act.put, List.setIfInBounds_toArray, List.set_cons_zero, List.set_cons_succ]
            refine wpTill_ready (rs := [7]) (by kernel_rfl) (by decide) ?_
            refine AllTill.consH (o := ?oi17) ?ho17 (fun K hK => ?step17) ?more17
            case ho17 => simp only [List.getElem?_toArray, List.getElem?_cons_succ, List.getElem?_cons_zero]; rfl
            case step17 =>
              go_simp
              refine (HCALL.out).mono ?_
              rintro _ w5 ⟨⟨j2, hj1, hj2, rfl⟩, hb5⟩
              have HJ2 : Hid (jk ≤ j2 ∧ j2 < mk) := ⟨hj1, hj2⟩
              have HB5 : Hid (Below wr.heap.size wr w5) := (Below.refl _ wr).drew.trans hb5
              have HL5 : Hid (w5.heap[H + 1]? = some (.cells #[.int .i64 (X.lineOf s.data.toList j0), .int .i64 (X.colOf s.data.toList j0)] 26 (0, 0))) := (HB5.out.block (H + 1) (Go.lt_of_block HL.out)).trans HL.out
              obtain ⟨v0, v1⟩ := row2 HL5.out
              have fv0 := rowFree HL5.out 0
              have fv1 := rowFree HL5.out 1
              unfold posAgg X.at_
              clear hb5 hj1 hj2
              try dsimp only
              refine hK.out _ _ (fun hk => by cases (show true = false from hk)) (fun _ => ?_)
              clear hK K
              try simp only [Act.put, List.setIfInBounds_toArray, List.set_cons_zero, List.set_cons_succ]
              refine wpTill_ready (rs := [8]) (by kernel_rfl) (by decide) ?_
              refine AllTill.consH (o := ?oi18) ?ho18 (fun K hK => ?step18) ?more18
              case ho18 => simp only [List.getElem?_toArray, List.getElem?_cons_succ, List.getElem?_cons_zero]; rfl
              case step18 =>
                go_simp
                refine hK.out _ _ (fun hk => by cases (show true = false from hk)) (fun _ => ?_)
                clear hK K
                try simp only [Act.put, List.setIfInBounds_toArray, List.set_cons_zero, List.set_cons_succ]
                refine wpTill_done (by kernel_rfl) ?_ _
                obtain ⟨w6, hw6⟩ : ∃ w6, (w5.setCell ⟨H + 1, 0, none⟩ (.int .i64 (X.lineOf s.data.toList j2))).setCell ⟨H + 1, 1, none⟩ (.int .i64 (X.colOf s.data.toList j2)) = w6 := ⟨_, rfl⟩
                have g6 : w5.grownBy w6 (some (H + 1)) := by rw [← hw6]; exact (grownBy_set w5 (H + 1) 0 _).trans (grownBy_set _ (H + 1) 1 _)
                have HL6 : Hid (w6.heap[H + 1]? = some (.cells #[.int .i64 (X.lineOf s.data.toList j2), .int .i64 (X.colOf s.data.toList j2)] 26 (0, 0))) := by show _ = _; rw [← hw6]; exact row_set (row_set HL5.out 0 _) 1 _
                have HN6 : Hid (w6.heap[H]? = some (nodeRow esp elo (.slice ava avn avc) (.slice (some ⟨g, o, none⟩) kn kvc) etx ln cl)) := (g6.block H (by have := HB5.out.size; have := Go.lt_of_block HNr.out; omega) (fun e => by have := Option.some.inj e; omega)).trans ((HB5.out.block H (Go.lt_of_block HNr.out)).trans HNr.out)
                have HZ6 : Hid (w6.heap[H + 2]? = some (.cells #[.int .i64 0, .int .i64 0] 26 (0, 0))) := (g6.block (H + 2) (by have := HB5.out.size; have := Go.lt_of_block HZr.out; omega) (fun e => by have := Option.some.inj e; omega)).trans ((HB5.out.block (H + 2) (Go.lt_of_block HZr.out)).trans HZr.out)
                have HB6 : Hid (Below W.heap.size W w6) := (HBr.out.trans (HB5.out.mono HBr.out.size)).grown g6 (by have := HBr.out.size; have := HB5.out.size; omega) (fun k hk => by have := Option.some.inj hk; have := HH.out; omega)
                have hlp := X.line_pos s.data.toList j2
                have q1 : ((X.lineOf s.data.toList j2 : Int) == 0) = false := beq_eq_false_iff_ne.2 (by omega)
                obtain ⟨z0, z1⟩ := row2 HL6.out
                have HW6 := hid hw6
                clear hw6 g6 hlp v0 v1 fv0 fv1 x0 x1 x2 x3 x4 x5 x6 y0 y1 k0 k1 k2 k3 k4 k5 k6
                go_upto_region 20 with fail
                rw [HW6.out]
                clear HW6
                obtain ⟨lj, hlj⟩ : ∃ lj, X.lineOf s.data.toList j2 = lj := ⟨_, rfl⟩
                obtain ⟨cj, hcj⟩ : ∃ cj, X.colOf s.data.toList j2 = cj := ⟨_, rfl⟩
                rw [hlj] at q1 z0 ⊢
                rw [hcj] at z1 ⊢
                have HJN : Hid ((a.app (.cons ksp klo kal kks ktx kln kcl .nil)).app kr = e.ks ∧ (a.app (.cons ksp klo kal kks ktx kln kcl .nil)).length = kk1 ∧ X.Chain s.data.toList mk kr m ∧ i ≤ j2 ∧ j2 < mk) := by
                  refine ⟨(X.N.app_one a ksp klo kal kks ktx kln kcl kr).trans HJ.out.1, ?_, HREST.out.1, by have := HREST.out.2; have := HJ2.out.1; have := HJ.out.2.2.2; omega, HJ2.out.2⟩
                  rw [X.N.app_length, hk, ← hkk1]
                  rfl
                have HMS : Hid (kn - kk1 < kn - k) := by show _ < _; omega
                clear hlj hcj hkk1
                go_wp2_with fail
                go_roundw
                case rel => exact ⟨kk1, j2, _, kr, mk, rfl, rfl, HJN, HN6, HL6, HZ6, HB6⟩
                case measure => simpa [intOf] using HMS.out
              case more18 =>
                exact AllTill.nil
            case more17 =>
              exact AllTill.nil
theorem rises_any {s : ByteArray} (hs : s.size ≤ 1000000000000) (n : Nat) : RisesC s n := Nat.strongRecOn n (fun _ ih => rises_step hs ih)
end Go.Proofs.YtakplnceiibmlaaGreatDoor
