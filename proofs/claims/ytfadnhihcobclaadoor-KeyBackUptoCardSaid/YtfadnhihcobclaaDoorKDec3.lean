/- key.Decode's item: a list; key.Decode. -/
import Derived.Test.YtfadnhihcobclaaDoorKDec2
import Derived.Test.YtfadnhihcobclaaDoorKPlainE
namespace Go.Proofs.YtfadnhihcobclaaDoor
open Go.RowKit
open Go.Lib (hid)
open K
theorem grownBy_set (W : World) (X i : Nat) (v : Value) : W.grownBy (W.setCell ⟨X, i, none⟩ v) (some X) :=
  ⟨rfl, rfl, rfl, by simp, fun k _ hn => Below.heap_setCell W ⟨X, i, none⟩ _ k (fun e => hn (by rw [e]))⟩
theorem IOwn.kept {E : TypeId} {B : Nat} {l : Items} {v : Value} {w w' : World} (h : IOwn E B l v w) {row : Option Nat} (g : w.grownBy w' row) (hr : ∀ k, row = some k → k < B) : IOwn E B l v w' := by
  have hlt := h.lt
  obtain ⟨cs, h1, h2⟩ := h
  have hs := g.size
  refine ⟨cs, World.ownsRow.kept h1 g ?_, ?_⟩
  · cases hv : v.ownBlock with
    | none => exact Or.inl rfl
    | some k =>
      refine Or.inr fun e => ?_
      have := hr k e.symm
      have := hlt k hv
      omega
  · exact K.Items.Cells.keep (fun b hb => ⟨hb.1, by omega, hb.2.2⟩) (fun b hb => g.block b hb.2.1 (fun e => by have := hr b e.symm; omega)) l cs h2
theorem Lies.kept {P : Nat → Prop} {l : Items} {v : Value} {w w' : World} {row : Option Nat} (h : l.Lies w P v) (g : w.grownBy w' row) (hP : ∀ b, P b → b < w.heap.size ∧ row ≠ some b) : l.Lies w' P v :=
  h.keep (fun _ h => h) fun b hb => g.block b (hP b hb).1 (fun e => (hP b hb).2 e.symm)
theorem DS.done_far {W : World} {R0 : Nat} (x y z u : Value) {k : Nat} (hk : k ≠ R0) : ((((W.setCell ⟨R0, 0, none⟩ x).setCell ⟨R0, 1, none⟩ y).setCell ⟨R0, 2, none⟩ z).setCell ⟨R0, 3, none⟩ u).heap[k]? = W.heap[k]? := by
  rw [Below.heap_setCell _ _ _ _ hk, Below.heap_setCell _ _ _ _ hk, Below.heap_setCell _ _ _ _ hk, Below.heap_setCell _ _ _ _ hk]
theorem rd_more_bad {c d : Nat} {l : List UInt8} {er : Int} (h : rd 1 d l = .bad er) : rd (c + 1) d l = .bad er := by rw [rd_more, h]
theorem rd_more_ok {c d : Nat} {l r : List UInt8} {x : Items} (h : rd 1 d l = .ok x r) : rd (c + 1) d l = (rd c d r).app x := by rw [rd_more, h]
theorem rd_less {d : Nat} {l r : List UInt8} {x : Items} (h : rd 1 d l = .ok x r) : r.length < l.length := by
  rw [rd_hd] at h
  cases l with
  | nil => simp [hd] at h
  | cons a b =>
    have hl := hd_len d (a :: b) (by simp)
    split at h
    · cases h
    · rename_i n q hq
      rw [hq] at hl
      simp only [Rd.ok.injEq] at h
      rw [← h.2]; exact hl
    · rename_i t q hq
      rw [hq] at hl
      simp only [Rd.ok.injEq] at h
      rw [← h.2]; exact hl
    · rename_i m q hq
      rw [hq] at hl
      split at h
      · cases h
      · rename_i y q' hy
        simp only [Rd.ok.injEq] at h
        rw [← h.2]
        exact Nat.lt_of_le_of_lt (rd_len hy) hl
theorem nat_cast1 (d : Nat) : (((d + 1 : Nat)) : Int) = (d : Int) + 1 := rfl
set_option maxRecDepth 100000 in
set_option maxHeartbeats 8000000 in
theorem item_list (N : Nat) (IH : ∀ (d sb ib : Nat) (s : ByteArray) (w : World), s.size < N → s.size ≤ 100000 → d ≤ 16 → w.heap[sb]? = some (strRow s) → w.heap[ib]? = some (fnRow sb ib) → sb ≠ ib → Calls Tryd.prog 44 #[.int .i64 d, .pointer (some ⟨sb, 0, none⟩), .pointer (some ⟨ib, 0, none⟩)] w (ItemOf (rd 1 d s.data.toList) sb w))
    (d sb ib : Nat) (s : ByteArray) (w : World) (hN : s.size ≤ N) (hd16 : d ≤ 16) (h0 : 0 < s.size) (hsz : s.size ≤ 100000) {n : Nat} {r : List UInt8} (hu : uvar (s.data.toList.drop 1) = some (n, r)) (hk : s[0].toNat = 3) (hs : w.heap[sb]? = some (strRow s)) (hi : w.heap[ib]? = some (fnRow sb ib)) (hn : sb ≠ ib) :
    Calls Tryd.prog 44 #[.int .i64 d, .pointer (some ⟨sb, 0, none⟩), .pointer (some ⟨ib, 0, none⟩)] w (ItemOf (rd 1 d s.data.toList) sb w) := by
  have hR0 : rd 1 d s.data.toList = if d = 16 then .bad 84 else (match rd n (d + 1) r with | .bad e => .bad e | .ok x r' => .ok (.one 3 0 ⟨#[]⟩ x) r') := by
    have hd0 := drop_cons s 0 h0
    rw [List.drop_zero, Nat.zero_add] at hd0
    rw [rd_hd, hd0, hd, hu]
    simp only [hdK]
    rw [if_neg (by omega), if_neg (by omega), if_pos hk]
    by_cases hc : d = 16
    · rw [if_pos hc, if_pos hc]
    · rw [if_neg hc, if_neg hc]; rfl
  obtain ⟨hu1, hu2⟩ := uvar_len hu
  have hrl : r.length < N ∧ r.length ≤ 100000 := by
    have : (s.data.toList.drop 1).length ≤ s.size - 1 := by rw [List.length_drop, Array.length_toList]; exact Nat.le_refl _
    omega
  have cU := fun X => uvarint_any (s.extract 1 s.size) X (by rw [extract_size]; omega)
  rw [extract_from s 1, hu] at cU
  simp only [uvV] at cU
  have hemp := emp_no (x := s) (by omega)
  have HD := hid (DS.start hs hi hn (.int .u8 0) (.int .i64 0) (.string ⟨#[]⟩) (.slice none 0 0))
  have c0 := cell_of_one hs
  have l0 := Go.lt_of_block hs
  obtain ⟨k, hkx⟩ : ∃ k, s[0].toNat = k := ⟨_, rfl⟩
  rw [hkx] at hk
  subst hk
  obtain ⟨t, ht⟩ : ∃ t : ByteArray, (⟨r.toArray⟩ : ByteArray) = t := ⟨_, rfl⟩
  have htl : t.data.toList = r := by rw [← ht]
  have hts : t.size = r.length := by rw [← htl, Array.length_toList]; rfl
  rw [ht] at cU
  rw [← hts] at hrl
  obtain ⟨hr1, hr2⟩ := hrl
  have HI := hid IH
  clear hs hi hu hu1 ht IH hts
  by_cases hc : d = 16
  · have t0 : ((d : Int) == 16) = true := by simp; omega
    rw [if_pos hc] at hR0
    have HR := hid (p := _ = _) hR0
    clear hR0 hc
    go_enter Tryd.func44, Tryd.ntmps44
    go_wp2_with fail
    refine (cU _).mono ?_
    rintro e w1 ⟨rfl, bb⟩
    have HD1 := hid (HD.out.below bb)
    clear bb cU HD
    obtain ⟨f0, f1, f2, f3, f4, ⟨x, y, z, u, f5, f6, f7, f8⟩, f9, f10, f11, f12, f13⟩ := HD1.out.facts
    go_upto_region 8 with fail
    have HD2 := hid (HD1.out.write t)
    generalize World.setCell w1 _ _ = w2 at HD2 ⊢
    clear f0 f1 f2 f3 f4 f5 f6 f7 f8 f9 f10 f11 f12 f13 HD1
    obtain ⟨f0, f1, f2, f3, f4, ⟨x', y', z', u', f5, f6, f7, f8⟩, f9, f10, f11, f12, f13⟩ := HD2.out.facts
    go_wp2_with fail
    obtain ⟨g1, g2, g3, _⟩ := HD2.out.done (.int .u8 0) (.int .i64 0) (.string ⟨#[]⟩) (.slice none 0 0)
    exact bodyPost_ret (v := .tuple #[.agg #[.int .u8 0, .int .i64 0, .string ⟨#[]⟩, .slice none 0 0], .int .i64 84]) (results_pair rfl _ _ w.heap.size 62 _ (0, 0) _ (.int .i64 84) rfl g3 (by rfl) Tryd.underlying62 rfl infoItemS) rfl (itemOf_bad HR.out g1 g2)
  · have t0 : ((d : Int) == 16) = false := by simp; omega
    rw [if_neg hc] at hR0
    have hd15 : d + 1 ≤ 16 := by omega
    have HR := hid (p := _ = _) hR0
    clear hR0 hc
    go_enter Tryd.func44, Tryd.ntmps44
    go_wp2_with fail
    refine (cU _).mono ?_
    rintro e w1 ⟨rfl, bb⟩
    have HD1 := hid (HD.out.below bb)
    clear bb cU HD
    obtain ⟨f0, f1, f2, f3, f4, ⟨x, y, z, u, f5, f6, f7, f8⟩, f9, f10, f11, f12, f13⟩ := HD1.out.facts
    go_upto_region 8 with fail
    have HD2 := hid (HD1.out.write t)
    generalize World.setCell w1 _ _ = w2 at HD2 ⊢
    clear f0 f1 f2 f3 f4 f5 f6 f7 f8 f9 f10 f11 f12 f13 HD1
    obtain ⟨f0, f1, f2, f3, f4, ⟨x', y', z', u', f5, f6, f7, f8⟩, f9, f10, f11, f12, f13⟩ := HD2.out.facts
    go_wp2_with fail
    have HD3 := hid (HD2.out.alloc (.cells #[.int .u8 3, .int .i64 0, .string ⟨#[]⟩, .slice none 0 0] 62))
    have HXB : Hid ((w2.alloc (.cells #[.int .u8 3, .int .i64 0, .string ⟨#[]⟩, .slice none 0 0] 62)).heap[w2.heap.size]? = some (.cells #[.int .u8 3, .int .i64 0, .string ⟨#[]⟩, .slice none 0 0] 62 (0, 0))) := heap_alloc_new _ _
    generalize World.alloc w2 _ = w3 at HD3 HXB ⊢
    obtain ⟨X, hX⟩ : ∃ X, w2.heap.size = X := ⟨_, rfl⟩
    rw [hX] at HXB f13 ⊢
    clear f0 f1 f2 f3 f4 f5 f6 f7 f8 f9 f10 f11 f12 HD2 hX
    have HF13 := hid f13
    go_loopw [7] (fun v wr => ∃ (c : Nat) (t' : ByteArray) (acc : Items) (lv : Value), v = .int .u64 c ∧ c < 18446744073709551616 ∧ t'.size + acc.length ≤ t.size ∧ Hid (DS w sb ib w.heap.size t' wr) ∧ Hid (wr.heap[X]? = some (.cells #[.int .u8 3, .int .i64 0, .string ⟨#[]⟩, lv] 62 (0, 0))) ∧ Hid (IOwn 62 (X + 1) acc lv wr) ∧ Hid (rd n (d + 1) r = (rd c (d + 1) t'.data.toList).app acc)) (fun v _ => (intOf v).toNat)
    case atStart => exact ⟨n, t, .nil, _, rfl, hu2, by simp [Items.length], HD3.out, HXB.out, IOwn.nil _ _ _, by show _ = _; rw [Rd.app_nil, htl]⟩
    case round =>
      obtain ⟨c, t', acc, lv, rfl, hc64, hacc, hD, hXB, hI, hrd⟩ := hrel
      clear HD3 HXB
      obtain ⟨f0, f1, f2, f3, f4, ⟨x2, y2, z2, u2, f5, f6, f7, f8⟩, f9, f10, f11, f12, f13'⟩ := hD.out.facts
      obtain ⟨b0, b1, b2, b3⟩ := row4 hXB.out
      have bX := Go.lt_of_block hXB.out
      by_cases hpos : 0 < c
      · have q0 : decide ((0 : Int) < (c : Int)) = true := by simp; omega
        obtain ⟨c', rfl⟩ : ∃ c', c = c' + 1 := ⟨c - 1, by omega⟩
        have cI := HI.out (d + 1) sb ib t' wr (by omega) (by omega) hd15 hD.out.s hD.out.i hn
        rw [nat_cast1] at cI
        unfold itemFn at f2
        go_wp2_with fail
        refine cI.mono ?_
        rintro e w4 ⟨g1, hans⟩
        have HG := hid g1
        have HXB4 : Hid (w4.heap[X]? = some (.cells #[.int .u8 3, .int .i64 0, .string ⟨#[]⟩, lv] 62 (0, 0))) := by
          show _ = _
          have hls := hD.out.ls
          rw [g1.block X bX (fun e => by have := Option.some.inj e; omega)]; exact hXB.out
        have HI4 := hid (hI.out.kept g1 (fun k e => by have hls := hD.out.ls; have := Option.some.inj e; omega))
        have hsz4 := g1.size
        clear f0 f1 f2 f3 f4 f5 f6 f7 f8 f9 f10 f11 f12 f13' b0 b1 b2 b3 cI g1
        rcases hans with ⟨er, t4, hb, rfl, hs4⟩ | ⟨k4, n4, y4, m4, r4, mv, hok, rfl, hm4, hs4⟩
        · have HE : Hid (rd 1 d s.data.toList = .bad er) := by
            show _ = _
            rw [HR.out, hrd.out, rd_more_bad hb]; rfl
          have hne : (er != 0) = true := by rw [bne_iff_ne]; exact rd_bad _ _ (Nat.lt_succ_self _) 1 _ er hb
          have HD4 := hid (hD.out.call HG.out hs4)
          clear hb hs4 hrd HI4 hI hXB HG hD
          have HD5 := hid (HD4.out.alloc (.cells #[.int .u8 0, .int .i64 0, .string ⟨#[]⟩, .slice none 0 0] 62))
          go_upto_region 23 with fail
          generalize World.alloc w4 _ = w5 at HD5 ⊢
          obtain ⟨f0, f1, f2, f3, f4, ⟨x3, y3, z3, u3, f5, f6, f7, f8⟩, f9, f10, f11, f12, f13'⟩ := HD5.out.facts
          go_wp2_with fail
          obtain ⟨g1, g2, g3, _⟩ := HD5.out.done (.int .u8 0) (.int .i64 0) (.string ⟨#[]⟩) (.slice none 0 0)
          exact bodyPost_ret (v := .tuple #[.agg #[.int .u8 0, .int .i64 0, .string ⟨#[]⟩, .slice none 0 0], .int .i64 er]) (results_pair rfl _ _ w.heap.size 62 _ (0, 0) _ (.int .i64 er) rfl g3 (by rfl) Tryd.underlying62 rfl infoItemS) rfl (itemOf_bad HE.out g1 g2)
        · have HRD : Hid (rd n (d + 1) r = (rd c' (d + 1) r4).app (acc.app (.one k4 n4 y4 m4))) := by
            show _ = _
            rw [hrd.out, rd_more_ok hok, Rd.app_app]
          have hlen := rd_len hok
          obtain ⟨t4, ht4⟩ : ∃ t4 : ByteArray, (⟨r4.toArray⟩ : ByteArray) = t4 := ⟨_, rfl⟩
          have htl4 : t4.data.toList = r4 := by rw [← ht4]
          have hts4 : t4.size < t'.size := by
            have h1 : t4.size = r4.length := by rw [← htl4, Array.length_toList]; rfl
            have h2 : t'.data.toList.length = t'.size := Array.length_toList
            have h3 := rd_hd (d + 1) t'.data.toList
            rw [hok] at h3
            have h4 : r4.length < t'.data.toList.length := rd_less hok
            omega
          rw [ht4] at hs4
          rw [← htl4] at HRD
          have HD4 := hid (hD.out.call HG.out hs4)
          have HM4 : Hid (m4.Lies w4 (fun b => X + 1 ≤ b ∧ b < w4.heap.size ∧ lv.ownBlock ≠ some b) mv) :=
            lies_own (S := wr.heap.size) (fun k hk => (hI.out.lt k hk).2) hm4 (by omega)
          have hmv : mv.oneCell' = true := lies_one hm4
          have HLA := hid (p := acc.length ≤ 1000000000) (by omega)
          clear hok hs4 hrd hI hXB HG hD ht4 htl4 hm4 hlen
          have HD5 := hid (HD4.out.alloc (.cells #[.int .u8 k4, .int .i64 n4, .string y4, mv] 62))
          have HI5 := hid (HI4.out.alloc (.cells #[.int .u8 k4, .int .i64 n4, .string y4, mv] 62))
          have HB5 := hid ((Below.refl _ w4).alloc (Nat.le_refl _) (.cells #[.int .u8 k4, .int .i64 n4, .string y4, mv] 62))
          have HY5 := hid (heap_alloc_new w4 (.cells #[.int .u8 k4, .int .i64 n4, .string y4, mv] 62))
          obtain ⟨ma, mn, mc, hmv'⟩ : ∃ a n c, mv = .slice a n c := by
            rcases HM4.out with ⟨h, _⟩ | ⟨b, o, c, h, _⟩
            · exact ⟨none, 0, 0, h⟩
            · exact ⟨_, _, _, h⟩
          subst hmv'
          obtain ⟨a', c2, hlv⟩ := HI4.out.shape
          obtain ⟨la, hla⟩ : ∃ la, acc.length = la := ⟨_, rfl⟩
          rw [hla] at hlv
          subst hlv
          go_upto_region 23 with fail
          have HX5 : Hid ((w4.alloc (.cells #[.int .u8 k4, .int .i64 n4, .string y4, .slice ma mn mc] 62)).heap[X]? = some (.cells #[.int .u8 3, .int .i64 0, .string ⟨#[]⟩, .slice a' la c2] 62 (0, 0))) := by
            show _ = _
            rw [Lib.alloc_old _ _ _ (Go.lt_of_block HXB4.out)]; exact HXB4.out
          generalize World.alloc w4 _ = w5 at HD5 HI5 HB5 HY5 HX5 ⊢
          obtain ⟨Y, hY⟩ : ∃ Y, w4.heap.size = Y := ⟨_, rfl⟩
          rw [hY] at HY5 ⊢
          have hsz5 := HB5.out.size
          have hX5 := Go.lt_of_block HX5.out
          have hR6 : IOwn 62 (X + 1) acc (.slice a' la c2) (w5.alloc (.cells #[.int .u8 k4, .int .i64 n4, .string y4, .slice ma mn mc] 62)) := HI5.out.alloc _
          have hm6 : m4.Lies (w5.alloc (.cells #[.int .u8 k4, .int .i64 n4, .string y4, .slice ma mn mc] 62)) (fun b => X + 1 ≤ b ∧ b < (w5.alloc (.cells #[.int .u8 k4, .int .i64 n4, .string y4, .slice ma mn mc] 62)).heap.size ∧ (Value.slice a' la c2).ownBlock ≠ some b) (.slice ma mn mc) :=
            (HM4.out.below (HB5.out.alloc (by omega) _) (fun b hb => hb.2.1)).mono (fun b hb => ⟨hb.1, by have := hb.2.1; simp; omega, hb.2.2⟩)
          have hg6 := heap_alloc_new w5 (.cells #[.int .u8 k4, .int .i64 n4, .string y4, .slice ma mn mc] 62)
          have hX6 : (w5.alloc (.cells #[.int .u8 k4, .int .i64 n4, .string y4, .slice ma mn mc] 62)).heap[X]? = some (.cells #[.int .u8 3, .int .i64 0, .string ⟨#[]⟩, .slice a' la c2] 62 (0, 0)) := by
            rw [Lib.alloc_old _ _ _ hX5]; exact HX5.out
          have HX6 := hid hX6
          have hlw := hR6.lt
          have HLW := hid hlw
          have HHA := hid hla
          have hlA := HLA.out
          clear hX6 hlw hla HXB4 HI4 HM4 hY
          obtain ⟨b0, b1, b2, b3⟩ := row4 HX5.out
          obtain ⟨d0, d1, d2, d3⟩ := row4 HY5.out
          go_wp2_with (at_builtin; refine wpList_pushI itemT rfl _ _ rfl (X + 1) acc (.slice a' la c2) w5.heap.size k4 n4 y4 m4 (.slice ma mn mc) rfl rfl hR6 hm6 hg6 hlA (by simp; omega) ?_)
          intro v' w6 hI6 hgrow
          have hX7 : w6.heap[X]? = some (.cells #[.int .u8 3, .int .i64 0, .string ⟨#[]⟩, .slice a' la c2] 62 (0, 0)) := by
            rw [hgrow.block X (by simp; omega) (fun e => by have := (HLW.out X e.symm).1; omega)]; exact HX6.out
          have HX7 := hid hX7
          have HI6 := hid hI6
          have HD6 := hid ((HD5.out.alloc (.cells #[.int .u8 k4, .int .i64 n4, .string y4, .slice ma mn mc] 62)).grown hgrow (fun k hk => by have := HLW.out k hk; omega))
          obtain ⟨e0, e1, e2, e3⟩ := row4 hX7
          obtain ⟨h0', h1', h2', h3'⟩ := free4 hX7
          obtain ⟨a6, c6, hv6⟩ := hI6.shape
          obtain ⟨l6, hl6⟩ : ∃ l6, (acc.app (.one k4 n4 y4 m4)).length = l6 := ⟨_, rfl⟩
          rw [hl6] at hv6
          subst hv6
          have HL6 : Hid (t4.size + (acc.app (.one k4 n4 y4 m4)).length ≤ t.size) := by
            show _ ≤ _
            rw [Items.app_length, show (Items.one k4 n4 y4 m4).length = 1 from rfl]; omega
          have HLR : Hid (w.heap.size ≠ X) := by show _ ≠ _; omega
          clear hl6 hX7 hI6 hgrow hR6 hm6 hg6 HX6 HX5 b0 b1 b2 b3 d0 d1 d2 d3 HI5 HD5 HB5
          go_wp2_with fail
          have HD7 := hid (HD6.out.grown (grownBy_set w6 X 3 (.slice a6 l6 c6)) (fun k hk => by have := Option.some.inj hk; have := HLR.out; omega))
          have HX8 := hid (row_set HX7.out 3 (.slice a6 l6 c6))
          have HI7 := hid (HI6.out.kept (grownBy_set w6 X 3 (.slice a6 l6 c6)) (fun k hk => by have := Option.some.inj hk; omega))
          go_roundw
          case rel => exact ⟨c', t4, _, _, by go_num, by omega, HL6.out, HD7, HX8, HI7, HRD⟩
          case measure => simp [intOf]
      · have q0 : decide ((0 : Int) < (c : Int)) = false := by simp; omega
        obtain rfl : c = 0 := by omega
        have HE : Hid (rd 1 d s.data.toList = .ok (.one 3 0 ⟨#[]⟩ acc) t'.data.toList) := by
          show _ = _
          rw [HR.out, hrd.out, rd_zero]
          simp only [Rd.app, Items.app_nil]
        have hsh : lv = .slice none 0 0 ∨ ∃ a' n' c', lv = .slice a' n' c' := by
          obtain ⟨a', c', h⟩ := hI.out.shape
          exact Or.inr ⟨_, _, _, h⟩
        have HIO := hid hI.out
        have HFX := HF13.out
        obtain ⟨a', c', hlv⟩ := hI.out.shape
        obtain ⟨la, hla⟩ : ∃ la, acc.length = la := ⟨_, rfl⟩
        rw [hla] at hlv
        subst hlv
        clear hla hrd hI hsh
        go_wp2_with fail
        obtain ⟨g1, g2, g3, _⟩ := hD.out.done (.int .u8 3) (.int .i64 0) (.string ⟨#[]⟩) (.slice a' la c')
        exact bodyPost_ret (v := .tuple #[.agg #[.int .u8 3, .int .i64 0, .string ⟨#[]⟩, .slice a' la c'], .int .i64 0]) (results_pair rfl _ _ w.heap.size 62 _ (0, 0) _ (.int .i64 0) rfl g3 (by rfl) Tryd.underlying62 rfl infoItemS) rfl (itemOf_ok2 HE.out g1 (HIO.out.lies.keep (fun b hb => ⟨by omega, by simpa using hb.2⟩) (fun b hb => DS.done_far _ _ _ _ (show b ≠ w.heap.size by omega))) g2 rfl)
theorem item_any : ∀ (N d sb ib : Nat) (s : ByteArray) (w : World), s.size < N → s.size ≤ 100000 → d ≤ 16 → w.heap[sb]? = some (strRow s) → w.heap[ib]? = some (fnRow sb ib) → sb ≠ ib → Calls Tryd.prog 44 #[.int .i64 d, .pointer (some ⟨sb, 0, none⟩), .pointer (some ⟨ib, 0, none⟩)] w (ItemOf (rd 1 d s.data.toList) sb w) := by
  intro N
  induction N with
  | zero => intro d sb ib s w h; omega
  | succ N ih =>
    intro d sb ib s w hN hsz hd hs hi hn
    rcases Nat.eq_zero_or_pos s.size with h0 | h0
    · exact item_empty d sb ib s w h0 hs hi hn
    · cases hu : uvar (s.data.toList.drop 1) with
      | none => exact item_none d sb ib s w h0 hsz hu hs hi hn
      | some p =>
        obtain ⟨n, r⟩ := p
        rcases (by omega : (s[0].toNat < 1 ∨ 3 < s[0].toNat) ∨ s[0].toNat = 1 ∨ s[0].toNat = 2 ∨ s[0].toNat = 3) with hk | hk | hk | hk
        · exact item_kind d sb ib s w h0 hsz hu hk hs hi hn
        · exact item_num d sb ib s w h0 hsz hu hk hs hi hn
        · exact item_text d sb ib s w h0 hsz hu hk hs hi hn
        · exact item_list N ih d sb ib s w (by omega) hd h0 hsz hu hk hs hi hn
end Go.Proofs.YtfadnhihcobclaaDoor
