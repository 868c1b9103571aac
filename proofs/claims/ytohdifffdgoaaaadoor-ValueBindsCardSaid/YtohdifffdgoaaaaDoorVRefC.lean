/- The walks of the reference's Find and CheckBinds. -/
import Derived.Test.YtohdifffdgoaaaaDoorVRefB
namespace Go.Proofs.YtohdifffdgoaaaaDoor
open Go.RowKit
open Go.Lib (hid)
open V
theorem findV_miss {l : List Bind} {x : List UInt8} (h : ∀ c ∈ l, c.nm ≠ x) : findV l x = (⟨0, 0, false, ⟨#[]⟩⟩, false) := by
  unfold findV; rw [(idxI_miss l x h).2]
theorem findV_hit {l : List Bind} {x : List UInt8} {k : Nat} {b : Bind} (hk : l[k]? = some b) (hb : b.nm = x) (h : ∀ c ∈ l.take k, c.nm ≠ x) : findV l x = (b.v, true) := by
  unfold findV; rw [(idxI_hit l x k b hk hb h).2]
theorem take_ne {l : List Bind} {x : List UInt8} {k : Nat} {b : Bind} (hk : l[k]? = some b) (hb : b.nm ≠ x) (h : ∀ c ∈ l.take k, c.nm ≠ x) : ∀ c ∈ l.take (k + 1), c.nm ≠ x := fun c hc => by
  rw [List.take_add_one, hk] at hc
  rcases List.mem_append.1 hc with hc | hc
  · exact h c hc
  · simp at hc; subst hc; exact hb
set_option maxRecDepth 100000 in
set_option maxHeartbeats 2000000 in
theorem refFind_at (bs : List Bind) (sv : Value) (nm : ByteArray) (w : World) (hin : BIn w bs sv) (hl : bs.length ≤ 10000000000000) {fk : Nat} {fn : Int} {fb fq : Bool} {fs : ByteArray} (h : findV bs nm.data.toList = (⟨fk, fn, fb, fs⟩, fq)) :
    Calls Tryd.prog 23 #[sv, .string nm] w fun e w' => e = .returned (.tuple #[.agg #[.int .u8 fk, .int .i64 fn, .bool fb, .string fs], .bool fq]) ∧ Below w.heap.size w w' := by
  obtain ⟨n, hn⟩ : ∃ n, bs.length = n := ⟨_, rfl⟩
  obtain ⟨xa, ca, hsa⟩ := hin.shape
  rw [hn] at hsa hl
  subst hsa
  have HA := hid hin
  have HN := hid hn
  have HF := hid h
  clear hn hin h
  go_enter Tryd.func23, Tryd.ntmps23
  go_upto_region 1 with fail
  have h4 : (w.alloc (.cells #[.int .u8 0, .int .i64 0, .bool false, .string ⟨#[]⟩] 23)).heap[w.heap.size]? = some (.cells #[.int .u8 0, .int .i64 0, .bool false, .string ⟨#[]⟩] 23 (0, 0)) := heap_alloc_new w _
  have HB := hid ((Below.refl w.heap.size w).alloc (Nat.le_refl _) (.cells #[.int .u8 0, .int .i64 0, .bool false, .string ⟨#[]⟩] 23))
  generalize w.alloc (.cells #[.int .u8 0, .int .i64 0, .bool false, .string ⟨#[]⟩] 23) = W at *
  obtain ⟨z, hz⟩ : ∃ z, w.heap.size = z := ⟨_, rfl⟩
  rw [hz] at h4 HB ⊢
  have HZ := hid hz
  obtain ⟨r0, r1, r2, r3⟩ := row4 h4
  obtain ⟨q0, q1, q2, q3⟩ := free4 h4
  have H4 := hid h4
  clear h4 hz
  go_wp2_with fail
  go_loopw [6] (fun i wr => ∃ (k : Nat), k ≤ n ∧ i = .int .i64 k ∧ wr = W ∧ Hid (∀ c ∈ bs.take k, c.nm ≠ nm.data.toList)) (fun i _ => n - (intOf i).toNat)
  case atStart => exact ⟨0, by omega, rfl, rfl, fun c hc => by simp at hc⟩
  case round =>
    obtain ⟨k, hk, rfl, rfl, hI⟩ := hrel
    by_cases hlt : k < n
    · have hl0 : decide ((k : Int) < (n : Int)) = true := by simp; omega
      have hkp : k < bs.length := by have := HN.out; omega
      obtain ⟨b, o, _, hsv, hbl, c0, c1, c2, c3, c4⟩ := HA.out.cells hkp
      rw [HN.out] at hsv
      simp only [Value.slice.injEq, true_and] at hsv
      obtain ⟨rfl, rfl⟩ := hsv
      have hk0 : (0 : Int) ≤ (k : Int) := by omega
      have hk1 : (k : Int) < (n : Int) := by omega
      rw [HZ.out] at hbl
      rw [← HB.out.cell (p := ⟨b, _, none⟩) hbl] at c0 c1 c2 c3 c4
      obtain ⟨p, hp⟩ : ∃ p, bs[k] = p := ⟨_, rfl⟩
      have hg : bs[k]? = some p := by rw [List.getElem?_eq_getElem hkp, hp]
      rw [hp] at c0 c1 c2 c3 c4
      obtain ⟨x, kk, nn, bb, ss⟩ := p
      simp only at c0 c1 c2 c3 c4
      have HG := hid hg
      clear hp hg hkp
      by_cases he : x.data.toList = nm.data.toList
      · have t0 := bytes_yes he
        have hf := findV_hit HG.out he hI.out
        rw [HF.out] at hf
        simp only [Prod.mk.injEq, Val.mk.injEq] at hf
        obtain ⟨⟨rfl, rfl, rfl, rfl⟩, rfl⟩ := hf
        clear he hI
        go_wp2_with fail
        exact bodyPost_ret (v := .tuple #[.agg #[.int .u8 fk, .int .i64 fn, .bool fb, .string fs], .bool true]) (results_pair rfl _ _ z 23 _ (0, 0) _ (.bool true) rfl (row4_set H4.out (.int .u8 fk) (.int .i64 fn) (.bool fb) (.string fs)) (by rfl) Tryd.underlying23 rfl infoValue) rfl ⟨rfl, by rw [HZ.out]; exact below4_set HB.out (Nat.le_refl _) _ _ _ _⟩
      · have t0 := bytes_ne he
        have HI := hid (take_ne HG.out he hI.out)
        clear he hI
        go_wp2_with fail
        go_roundw
        case rel => exact ⟨k + 1, by omega, by go_num, trivial, HI⟩
        case measure => simp [intOf]; omega
    · have hl0 : decide ((k : Int) < (n : Int)) = false := by simp; omega
      have hf := findV_miss (l := bs) (x := nm.data.toList) (by have := hI.out; rw [List.take_of_length_le (by have := HN.out; omega)] at this; exact this)
      rw [HF.out] at hf
      simp only [Prod.mk.injEq, Val.mk.injEq] at hf
      obtain ⟨⟨rfl, rfl, rfl, rfl⟩, rfl⟩ := hf
      clear hI
      go_wp2_with fail
      exact bodyPost_ret (v := .tuple #[.agg #[.int .u8 0, .int .i64 0, .bool false, .string ⟨#[]⟩], .bool false]) (results_pair rfl _ _ z 23 _ (0, 0) _ (.bool false) rfl (row4_set H4.out (.int .u8 0) (.int .i64 0) (.bool false) (.string ⟨#[]⟩)) (by rfl) Tryd.underlying23 rfl infoValue) rfl ⟨rfl, by rw [HZ.out]; exact below4_set HB.out (Nat.le_refl _) _ _ _ _⟩
/-- what CheckBinds says: the reference's way of seeing twice -/
theorem seen_yes {bs : List Bind} {k j : Nat} {p q : Bind} (hj : bs[j]? = some q) (hjk : j < k) (he : q.nm = p.nm) : p.nm ∈ (bs.take k).map Bind.nm := by
  obtain ⟨h, rfl⟩ := List.getElem?_eq_some_iff.1 hj
  exact List.mem_map.2 ⟨bs[j], by rw [List.mem_take_iff_getElem]; exact ⟨j, by omega, rfl⟩, he⟩
set_option maxRecDepth 100000 in
set_option maxHeartbeats 2000000 in
theorem refCheckBinds_any (bs : List Bind) (sv : Value) (w : World) (hin : BIn w bs sv) (hlen : bs.length ≤ 10000000000000) (hsz : ∀ b ∈ bs, b.name.size ≤ 9223372036854775807 ∧ b.v.s.size ≤ 9223372036854775807) :
    Calls Tryd.prog 28 #[sv] w fun e w' => e = .returned (.int .i64 (checkB bs)) ∧ Below w.heap.size w w' := by
  obtain ⟨n, hn⟩ : ∃ n, bs.length = n := ⟨_, rfl⟩
  obtain ⟨xa, ca, hsv⟩ := hin.shape
  rw [hn] at hsv hlen
  subst hsv
  have HIN := hid hin
  have HN := hid hn
  have HSZ := hid hsz
  clear hin hn hsz
  go_enter Tryd.func28, Tryd.ntmps28
  go_wp2_with fail
  go_loopw [3] (fun i wr => ∃ (k : Nat), k ≤ n ∧ i = .int .i64 k ∧ Hid (Below w.heap.size w wr ∧ checkB bs = checkFrom ((bs.take k).map Bind.nm) (bs.drop k))) (fun i _ => n - (intOf i).toNat)
  case atStart => exact ⟨0, by omega, rfl, Below.refl _ _, rfl⟩
  case round =>
    obtain ⟨k, hk, rfl, hb⟩ := hrel
    by_cases hlt : k < n
    · have hl0 : decide ((k : Int) < (n : Int)) = true := by simp; omega
      have hkp : k < bs.length := by have := HN.out; omega
      obtain ⟨b, o, _, hsv, hbl, c0, c1, c2, c3, c4⟩ := HIN.out.cells hkp
      rw [HN.out] at hsv
      simp only [Value.slice.injEq, true_and] at hsv
      obtain ⟨rfl, rfl⟩ := hsv
      have hk0 : (0 : Int) ≤ (k : Int) := by omega
      have hk1 : (k : Int) < (n : Int) := by omega
      have hnz := HSZ.out _ (List.getElem_mem hkp)
      have hst : bs.drop k = bs[k] :: bs.drop (k + 1) := List.drop_eq_getElem_cons hkp
      have htk : (bs.take (k + 1)).map Bind.nm = (bs.take k).map Bind.nm ++ [bs[k].nm] := by rw [List.take_succ_eq_append_getElem hkp, List.map_append]; rfl
      obtain ⟨p, hp⟩ : ∃ p, bs[k] = p := ⟨_, rfl⟩
      have hg : bs[k]? = some p := by rw [List.getElem?_eq_getElem hkp, hp]
      rw [hp] at c0 c1 c2 c3 c4 hnz hst htk
      have hIk := hb.out.2
      rw [hst, checkFrom] at hIk
      have HI := hid hIk
      have HTK := hid htk
      have HB := hid hb.out.1
      have HG := hid hg
      clear hp hst hIk htk hkp hb hg
      obtain ⟨nm, kk, nn, bb, ss⟩ := p
      simp only at c0 c1 c2 c3 c4 hnz
      have hz1 := hnz.1
      have hz2 := hnz.2
      clear hnz
      have d0 := c0
      rw [← HB.out.cell (p := ⟨b, _, none⟩) hbl] at d0 c1 c2 c3 c4
      have C0 := hid c0
      clear c0
      cases hq : W.nameB nm.data.toList
      · have HE : Hid (checkB bs = 1) := by
          show _ = _
          rw [HI.out]; simp [Bind.fine, Bind.nm, hq]
        have cN := fun X => refName_any nm X (by omega)
        rw [hq] at cN
        have HCN := hid cN
        clear hq HI HTK cN
        go_wp2_with fail
        refine (HCN.out _).mono ?_
        rintro e w1 ⟨rfl, rfl⟩
        go_wp2_with fail
        go_ret
        exact ⟨ret_i (a := 1) HE.out.symm, HB.out⟩
      · have cN := fun X => refName_any nm X (by omega)
        rw [hq] at cN
        have HCN := hid cN
        clear cN
        cases hok : ok ⟨kk, nn, bb, ss⟩
        · have HE : Hid (checkB bs = 1) := by
            show _ = _
            rw [HI.out]; simp [Bind.fine, hok]
          have cC := fun X => refCheck_wide kk nn bb ss X hz2
          rw [show okE ⟨kk, nn, bb, ss⟩ = 1 by simp [okE, hok]] at cC
          have HCC := hid cC
          clear hq hok HI HTK cC
          go_wp2_with fail
          refine (HCN.out _).mono ?_
          rintro e w1 ⟨rfl, rfl⟩
          go_wp2_with fail
          refine (HCC.out _).mono ?_
          rintro e w2 ⟨rfl, b2⟩
          have HB3 := hid (HB.out.trans (b2.mono HB.out.size))
          clear b2
          go_wp2_with fail
          go_ret
          exact ⟨ret_i (a := 1) HE.out.symm, HB3.out⟩
        · have hfine : Bind.fine ⟨nm, ⟨kk, nn, bb, ss⟩⟩ = true := by simp [Bind.fine, Bind.nm, hq, hok]
          have cC := fun X => refCheck_wide kk nn bb ss X hz2
          rw [show okE ⟨kk, nn, bb, ss⟩ = 0 by simp [okE, hok]] at cC
          have hI2 := HI.out
          rw [if_neg (by simp [hfine])] at hI2
          have HI2 := hid hI2
          have HCC := hid cC
          clear hq hok HI hfine hI2 cC
          go_wp2_with fail
          refine (HCN.out _).mono ?_
          rintro e w1 ⟨rfl, rfl⟩
          go_wp2_with fail
          refine (HCC.out _).mono ?_
          rintro e w2 ⟨rfl, b2⟩
          have HB3 := hid (HB.out.trans (b2.mono HB.out.size))
          clear b2 HB d0 c1 c2 c3 c4
          go_wp2_with fail
          go_loopw [4] (fun i wz => ∃ (j : Nat), j ≤ k ∧ i = .int .i64 j ∧ Hid (Below w.heap.size w wz ∧ ∀ q ∈ bs.take j, q.nm ≠ nm.data.toList)) (fun i _ => k - (intOf i).toNat)
          case atStart => exact ⟨0, by omega, rfl, hid ⟨HB3.out, fun c hc => by simp at hc⟩⟩
          case round =>
            obtain ⟨j, hj, rfl, hJ⟩ := hrel
            clear HB3
            by_cases hlj : j < k
            · have hl1 : decide ((j : Int) < (k : Int)) = true := by simp; omega
              have hjp : j < bs.length := by have := HN.out; omega
              obtain ⟨b', o', _, hsv, hbl', y0, -⟩ := HIN.out.cells hjp
              rw [HN.out] at hsv
              simp only [Value.slice.injEq, true_and, Option.some.injEq, Addr.mk.injEq, and_true] at hsv
              obtain ⟨⟨rfl, rfl⟩, rfl⟩ := hsv
              have hj0 : (0 : Int) ≤ (j : Int) := by omega
              have hj1 : (j : Int) < (n : Int) := by omega
              obtain ⟨p, hp⟩ : ∃ p, bs[j] = p := ⟨_, rfl⟩
              have hg : bs[j]? = some p := by rw [List.getElem?_eq_getElem hjp, hp]
              rw [hp] at y0
              obtain ⟨x, v⟩ := p
              simp only at y0
              have HG2 := hid hg
              have x0 := (hJ.out.1.cell (p := ⟨b, _, none⟩) hbl).trans C0.out
              rw [← hJ.out.1.cell (p := ⟨b, _, none⟩) hbl] at y0
              clear hp hg hjp
              by_cases he : x.data.toList = nm.data.toList
              · have t0 := bytes_yes he
                have HE : Hid (checkB bs = 6) := by
                  show _ = _
                  rw [HI2.out, if_pos]
                  exact seen_yes HG2.out hlj he
                clear he
                go_wp2_with fail
                go_region
                go_wp2_with fail
                go_ret
                exact ⟨ret_i (a := 6) HE.out.symm, hJ.out.1.drew⟩
              · have t0 := bytes_ne he
                have HJ := hid (take_ne HG2.out he hJ.out.2)
                clear he
                go_wp2_with fail
                go_region
                go_wp2_with fail
                go_roundw
                case rel => exact ⟨j + 1, by omega, by go_num, hid ⟨hJ.out.1.drew, HJ.out⟩⟩
                case measure => simp [intOf]; omega
            · have hl1 : decide ((j : Int) < (k : Int)) = false := by simp; omega
              obtain rfl : j = k := by omega
              have HK : Hid (checkB bs = checkFrom ((bs.take (j + 1)).map Bind.nm) (bs.drop (j + 1))) := by
                show _ = _
                rw [HI2.out, if_neg, HTK.out]
                intro hm
                obtain ⟨q, hq, he⟩ := List.mem_map.1 hm
                exact hJ.out.2 q hq he
              go_wp2_with fail
              go_roundw
              case rel => exact ⟨j + 1, by omega, by go_num, hid ⟨hJ.out.1, HK.out⟩⟩
              case measure => simp [intOf]; omega
    · have hl0 : decide ((k : Int) < (n : Int)) = false := by simp; omega
      have HE : Hid (checkB bs = 0) := by
        show _ = _
        rw [hb.out.2, List.drop_eq_nil_of_le (by have := HN.out; omega)]; rfl
      go_wp2_with fail
      go_ret
      exact ⟨ret_i (a := 0) HE.out.symm, hb.out.1⟩
end Go.Proofs.YtohdifffdgoaaaaDoor
