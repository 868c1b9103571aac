/- The walk of the reference's Unpack. -/
import Derived.Test.YtfadnhihcobclaaDoorKUnpack
namespace Go.Proofs.YtfadnhihcobclaaDoor
open Go.RowKit
open Go.Lib (hid)
open K
theorem infoPartQ : (Tryd.prog.info? 70).map (fun i => (i.zero, i.size, i.bytes)) = some (some (.agg #[.bool false, .int .i64 0, .string ⟨#[]⟩]), 3, 32) := by kernel_rfl
def QOwn (B : Nat) (ps : List Part) (v : Value) (w : World) : Prop := w.ownsRow B 70 3 v ps.length (rowOf ps)
theorem QOwn.is {B : Nat} {ps : List Part} {v : Value} {w : World} (h : QOwn B ps v w) : PIn w ps v := by
  have hc := fun g (hg : v.ownBlock = some g) => World.ownsRow.cells h hg
  rcases h.2 with ⟨rfl, h0⟩ | ⟨g, cap, cur, rfl, _, _, hcap, _⟩
  · exact Or.inl ⟨List.eq_nil_of_length_eq_zero h0, none, 0, rfl, fun _ => rfl⟩
  · rcases Nat.eq_zero_or_pos ps.length with h0 | h0
    · rw [h0]
      exact Or.inl ⟨List.eq_nil_of_length_eq_zero h0, _, cap, rfl, fun h => by cases h⟩
    · exact Or.inr ⟨h0, g, 0, cap, rfl, hcap, fun j u hj => by
        rw [Nat.zero_add]
        have e : (⟨g, 0, none⟩ : Addr).add j = ⟨g, j, none⟩ := by cases j <;> simp [Addr.add]
        rw [← e]; exact hc g rfl j u hj⟩
theorem wpList_pushQ {ops : Array Oper} {rest : List Oper} {o : Oper} {a : Act} {Q : Exit → Act → World → Prop} {w : World} (hgd : o.guard = none) (s x : Operand)
    (ho : o.op = .call { callee := .builtin .append, args := #[s, x], argTypes := #[35, 35] }) (B : Nat) (ps : List Part) (p : Part) (v : Value) (g : Nat) (hs : a.eval s = v) (hR : QOwn B ps v w) (hx : a.eval x = .slice (some ⟨g, 0, none⟩) 1 1)
    (hg : w.heap[g]? = some (.cells #[.bool p.text, .int .i64 p.n, .string p.say] 70 (0, 0))) (hl : ps.length ≤ 1000000000) (hB : B ≤ w.heap.size) (h : ∀ v' w', QOwn B (ps ++ [p]) v' w' → w.grownBy w' v.ownBlock → wpList Tryd.prog ops Q rest (a.put o.dst v') w') : wpList Tryd.prog ops Q (o :: rest) a w := by
  obtain ⟨i0, hi, hz0, hz1, hz2⟩ := info_parts infoPartQ
  refine wpList_append_own _ hgd s x 35 ho B 70 i0 _ 3 32 Tryd.underlying35 hi hz0 hz1 hz2 rfl (by decide) v ps.length (rowOf ps) hs hR ⟨g, 0, none⟩ 1 1 [.bool p.text, .int .i64 p.n, .string p.say] hx rfl (World.news_of_block (cs := #[.bool p.text, .int .i64 p.n, .string p.say]) (t := 70) (fr := (0, 0)) hg) (by simp [Value.oneCell']) (by unfold maxLen; omega) (by omega) hB ?_
  intro v' w' h1 h2 _
  refine h v' w' ?_ h2
  unfold QOwn
  rw [rowOf_append, List.length_append]
  exact h1
theorem QOwn.below {B : Nat} {ps : List Part} {v : Value} {w w' : World} (h : QOwn B ps v w) (hb : Below w.heap.size w w') : QOwn B ps v w' :=
  World.ownsRow.kept (row := none) h ⟨hb.os, hb.tape, hb.output, hb.size, fun k hk _ => hb.block k hk⟩ (Classical.em _)
def UnOfQ (R : List Part × Int) (w : World) (e : Ending) (w' : World) : Prop := ∃ v, e = .returned (.tuple #[v, .int .i64 R.2]) ∧ QOwn w.heap.size R.1 v w' ∧ Below w.heap.size w w'

set_option maxRecDepth 100000 in
set_option maxHeartbeats 8000000 in
theorem refUnpack_any (s : ByteArray) (w : World) (hs : s.size ≤ 4000000) :
    Calls Tryd.prog 31 #[.string s] w (UnOfQ (unpack s.data.toList) w) := by
  obtain ⟨U, hU⟩ : ∃ U, unpackF s.data.toList.length s.data.toList = U := ⟨_, rfl⟩
  have hst := K.Left.start s.data.toList
  unfold unpack
  rw [hU] at hst ⊢
  have HST := hid hst
  clear hU hst
  have hsl : s.data.toList.length = s.size := Array.length_toList
  have HSL := hid hsl
  clear hsl
  go_enter Tryd.func31, Tryd.ntmps31
  go_wp2_with fail
  go_loopw [4, 5] (fun v i wr => ∃ (n : Nat) (acc : List Part), n ≤ s.size ∧ i = .int .i64 n ∧ Hid (QOwn w.heap.size acc v wr) ∧ Hid (K.Left U acc (s.data.toList.drop n)) ∧ Hid (acc.length ≤ n) ∧ Hid (Below w.heap.size w wr)) (fun _ i _ => s.size - (intOf i).toNat)
  case atStart => exact ⟨0, [], by omega, rfl, ⟨rfl, Or.inl ⟨rfl, rfl⟩⟩, HST.out, by show 0 ≤ 0; omega, Below.refl _ _⟩
  case round =>
    obtain ⟨n, acc, hn, rfl, hR, hL, hO, hb⟩ := hrel
    clear HST
    have hal : acc.length ≤ 1000000000 := by have := hO.out; omega
    have hwr := hb.out.size
    by_cases hlt : n < s.size
    · have hl : decide ((n : Int) < (s.size : Int)) = true := by simp; omega
      have hd := drop_cons s n hlt
      have hL2 := hL.out
      rw [hd] at hL2
      have hlen1 : (s.data.toList.drop (n + 1)).length = s.size - (n + 1) := by rw [List.length_drop, HSL.out]
      clear hL hd
      by_cases g1 : s[n] = 1
      · have q1 : ((s[n].toNat : Int) == 1) = true := by rw [g1]; rfl
        rw [g1] at hL2
        by_cases h9 : n + 9 ≤ s.size
        · have t9 : decide ((n : Int) + 9 ≤ (s.size : Int)) = true := by simp; omega
          have HN := hid (hL2.num (by rw [hlen1]; omega))
          rw [List.drop_drop, show n + 1 + 8 = n + 9 by omega] at HN
          have HR := hid hR.out
          have HLN := hid hlen1
          clear hL2 hlen1 g1 hR
          go_wp2_with fail
          clear q1 t9 hl
          go_loopw [6, 7] (fun v i wq => ∃ (k : Nat), k ≤ 8 ∧ i = .int .i64 ((k : Int) + 1) ∧ v = .int .u64 ((numL ((s.data.toList.drop (n + 1)).take k) : Nat) : Int) ∧ Hid (wq = wr)) (fun _ i _ => 9 - (intOf i).toNat)
          case atStart => exact ⟨0, by omega, rfl, rfl, rfl⟩
          case round =>
            obtain ⟨k, hk, rfl, rfl, hwq⟩ := hrel
            rename World => wq
            by_cases hk8 : k < 8
            · have hl : decide ((k : Int) + 1 ≤ 8) = true := by simp; omega
              have hnk : n + (k + 1) < s.size := by omega
              have hdk := drop_cons s (n + (k + 1)) hnk
              have htk : (s.data.toList.drop (n + 1)).take (k + 1) = (s.data.toList.drop (n + 1)).take k ++ [s[n + (k + 1)]] := by
                have hkl : k < (s.data.toList.drop (n + 1)).length := by rw [HLN.out]; omega
                rw [List.take_succ_eq_append_getElem hkl]
                congr 2
                rw [List.getElem_drop]
                simp only [show n + 1 + k = n + (k + 1) by omega]
                rfl
              have hix : ((n : Int) + ((k : Int) + 1)) = ((n + (k + 1) : Nat) : Int) := by omega
              have hidx : ∀ X : World, (Instr.index 9 (.string s) (.int .i64 ((n : Int) + ((k : Int) + 1)))).run Tryd.prog X = .ok (.int .u8 s[n + (k + 1)].toNat) X := by
                intro X
                rw [hix, run_index_string X 9 s .i64 _ Tryd.underlying9, dif_pos (by omega)]
                rfl
              obtain ⟨c, hc⟩ : ∃ c, s[n + (k + 1)] = c := ⟨_, rfl⟩
              rw [hc] at htk hidx
              have hN := numL_snoc ((s.data.toList.drop (n + 1)).take k) c
              rw [← htk] at hN
              have hsm := numL_small (l := (s.data.toList.drop (n + 1)).take k) (k := k) (by rw [List.length_take, HLN.out]; omega) (by omega)
              obtain ⟨a, ha⟩ : ∃ a, numL ((s.data.toList.drop (n + 1)).take k) = a := ⟨_, rfl⟩
              rw [ha] at hN hsm ⊢
              have HNN := hid hN
              have hc8 := c.toNat_lt
              obtain ⟨d, hd⟩ : ∃ d, c.toNat = d := ⟨_, rfl⟩
              rw [hd] at hidx hc8 HNN
              have hor := bits_or_low a d (by omega) (by omega)
              have hwr2 : IntKind.u64.wrap ((a : Int) * 256) = (a : Int) * 256 := by rw [IntKind.wrap_u64]; omega
              have hwd : IntKind.u64.wrap (d : Int) = (d : Int) := by rw [IntKind.wrap_u64]; omega
              clear ha hd hc htk hN hdk hix
              go_wp2_with fail
              go_roundw
              case rel => exact ⟨k + 1, by omega, by go_num, by rw [HNN.out]; simp, hwq⟩
              case measure => simp [intOf]; omega
            · have hl : decide ((k : Int) + 1 ≤ 8) = false := by simp; omega
              obtain rfl : k = 8 := by omega
              obtain ⟨g, hg⟩ : ∃ g, numL ((s.data.toList.drop (n + 1)).take 8) = g := ⟨_, rfl⟩
              rw [hg] at HN ⊢
              rw [hwq.out]
              clear hwq
              have hR0 : QOwn w.heap.size acc u4 (wr.alloc (.cells #[.bool false, .int .i64 (numP g).n, .string ⟨#[]⟩] 70)) := World.ownsRow.alloc HR.out _
              have hg0 := heap_alloc_new wr (.cells #[.bool false, .int .i64 (numP g).n, .string ⟨#[]⟩] 70)
              clear hg
              go_wp2_with (at_builtin; refine wpList_pushQ rfl _ _ rfl w.heap.size acc (numP g) _ wr.heap.size rfl hR0 rfl hg0 hal (by simp; omega) ?_; intro v' w3 hR3 hgrow)
              have B3 := hid ((hb.out.alloc hwr (.cells #[.bool false, .int .i64 (numP g).n, .string ⟨#[]⟩] 70)).grown hgrow (by simp; omega) (fun k hk => (World.ownsRow.lt HR.out k hk).1))
              have R3 := hid hR3
              clear hR3 hgrow hR0 hg0
              go_wp2_with fail
              go_roundw
              case rel => exact ⟨n + 9, _, by omega, by go_num, R3, HN, by show List.length _ ≤ _; have := hO.out; simp; omega, B3⟩
              case measure => simp [intOf]; omega
        · have t9 : decide ((n : Int) + 9 ≤ (s.size : Int)) = false := by simp; omega
          have q2 : ((s[n].toNat : Int) != 2) = true := by rw [g1]; rfl
          have HE : Hid (resOf U = ([], 4)) := by
            show _ = _
            rw [hL2.short (by rw [hlen1]; omega)]; rfl
          clear hL2 hlen1 g1 hR
          go_wp2_with fail
          go_ret2
          rw [HE.out]
          exact ⟨_, rfl, ⟨rfl, Or.inl ⟨rfl, rfl⟩⟩, hb.out⟩
      · have q1 : ((s[n].toNat : Int) == 1) = false := beq_eq_false_iff_ne.2 (fun e => g1 (u8eq (b := 1) (by show _ = 1; omega)))
        by_cases g2 : s[n] = 2
        · have q2 : ((s[n].toNat : Int) != 2) = false := by rw [g2]; rfl
          rw [g2] at hL2
          obtain ⟨T, hT⟩ : ∃ T, textL (s.data.toList.drop (n + 1)) = T := ⟨_, rfl⟩
          have HNone : Hid (T = none → resOf U = ([], 4)) := by
            show _ → _
            intro h
            rw [hL2.no (hT.trans h)]; rfl
          have HSome : Hid (∀ p, T = some p → K.Left U (acc ++ [textP p.1]) p.2) := by
            show ∀ p, _ → _
            intro p h
            exact hL2.text (hT.trans h)
          have HT0 := hid hT
          have HR := hid hR.out
          clear hL2 hlen1 g1 g2 hR hT
          go_wp2_with fail
          clear q1 q2 hl
          go_loopw [5, 8, 9] (fun i b f wq => ∃ (m : Nat) (o : List UInt8), n + 1 ≤ m ∧ m ≤ s.size ∧ i = .int .i64 m ∧ Hid (Row wr.heap.size o b wq) ∧ Hid (o.length ≤ m) ∧ Hid (Below wr.heap.size wr wq) ∧
              ((f = .bool false ∧ Hid (T = joinT o (textL (s.data.toList.drop m)))) ∨ (f = .bool true ∧ Hid (T = some (o, s.data.toList.drop m))))) (fun i _ _ _ => s.size - (intOf i).toNat)
          case atStart => exact ⟨n + 1, [], by omega, by omega, by go_num, Row.nil _ _, by show 0 ≤ n + 1; omega, Below.refl _ _, Or.inl ⟨rfl, by show T = _; rw [joinT_nil]; exact HT0.out.symm⟩⟩
          case round =>
            obtain ⟨m, o, hm1, hm, rfl, hRB, hOl, hB, hst⟩ := hrel
            rename World => wq
            have hol : o.length ≤ 100000000000000 := by have := hOl.out; omega
            have hwq := hB.out.size
            clear HT0
            rcases hst with ⟨rfl, hT⟩ | ⟨rfl, hT⟩
            · by_cases hlm : m < s.size
              · have hl : decide ((m : Int) < (s.size : Int)) = true := by simp; omega
                have hd := drop_cons s m hlm
                by_cases h0 : s[m] = 0
                · have q0 : ((s[m].toNat : Int) != 0) = false := by rw [h0]; rfl
                  rw [h0] at hd
                  by_cases h1 : m + 1 < s.size
                  · have q1 : decide ((s.size : Int) ≤ (m : Int) + 1) = false := by simp; omega
                    have hd2 := drop_cons s (m + 1) h1
                    by_cases g0 : s[m + 1] = 0
                    · have q2 : ((s[m + 1].toNat : Int) != 0) = false := by rw [g0]; rfl
                      have q3 : ((s[m + 1].toNat : Int) == 255) = false := by rw [g0]; rfl
                      have HN : Hid (T = some (o, s.data.toList.drop (m + 2))) := by
                        show T = _
                        rw [hT.out, hd, hd2, g0, textL_end]; simp [joinT]
                      clear hd hd2 h0 g0 hT
                      go_wp2_with fail
                      go_roundw
                      case rel => exact ⟨m + 2, o, by omega, by omega, by go_num, hRB, by show _ ≤ _; have := hOl.out; omega, hB, Or.inr ⟨rfl, HN⟩⟩
                      case measure => simp [intOf]; omega
                    · have q2 : ((s[m + 1].toNat : Int) != 0) = true := by rw [bne_iff_ne]; exact fun e => g0 (u8eq (b := 0) (by show _ = 0; omega))
                      by_cases g5 : s[m + 1] = 255
                      · have q3 : ((s[m + 1].toNat : Int) == 255) = true := by rw [g5]; rfl
                        have q4 : ((s[m + 1].toNat : Int) != 255) = false := by rw [g5]; rfl
                        have HN : Hid (T = joinT (o ++ [0]) (textL (s.data.toList.drop (m + 2)))) := by
                          show T = _
                          rw [hT.out, hd, hd2, g5, textL_zero, joinT_more]
                        have hR0 : Row wr.heap.size o u8 (wq.alloc (.cells #[.int .u8 0] 5)) := World.ownsRow.alloc hRB.out _
                        have hg0 := heap_alloc_new wq (.cells #[.int .u8 0] 5)
                        clear hd hd2 h0 g0 g5 hT
                        go_wp2_with (at_builtin; refine wpList_push rfl _ _ rfl wr.heap.size o 0 _ wq.heap.size rfl hR0 rfl hg0 hol (by simp; omega) ?_; intro v' w3 hR3 hgrow)
                        have B3 := hid ((hB.out.alloc hwq (.cells #[.int .u8 0] 5)).grown hgrow (by simp; omega) (fun k hk => (World.ownsRow.lt hRB.out k hk).1))
                        have R3 := hid hR3
                        clear hR3 hgrow hR0 hg0
                        go_wp2_with fail
                        go_roundw
                        case rel => exact ⟨m + 2, _, by omega, by omega, by go_num, R3, by show List.length _ ≤ _; have := hOl.out; simp; omega, B3, Or.inl ⟨rfl, HN⟩⟩
                        case measure => simp [intOf]; omega
                      · have q4 : ((s[m + 1].toNat : Int) != 255) = true := by rw [bne_iff_ne]; exact fun e => g5 (u8eq (b := 255) (by show _ = 255; omega))
                        have HE := hid (HNone.out (by rw [hT.out, hd, hd2, textL_no _ _ g0 g5]; rfl))
                        clear hd hd2 h0 g0 g5 hT
                        go_wp2_with fail
                        go_ret2
                        rw [HE.out]
                        exact ⟨_, rfl, ⟨rfl, Or.inl ⟨rfl, rfl⟩⟩, hb.out.trans (hB.out.mono hwr)⟩
                  · have q1 : decide ((s.size : Int) ≤ (m : Int) + 1) = true := by simp; omega
                    have HE := hid (HNone.out (by rw [hT.out, hd, List.drop_of_length_le (by rw [HSL.out]; omega)]; rfl))
                    clear hd h0 hT
                    go_wp2_with fail
                    go_ret2
                    rw [HE.out]
                    exact ⟨_, rfl, ⟨rfl, Or.inl ⟨rfl, rfl⟩⟩, hb.out.trans (hB.out.mono hwr)⟩
                · have q0 : ((s[m].toNat : Int) != 0) = true := by rw [bne_iff_ne]; exact fun e => h0 (u8eq (b := 0) (by show _ = 0; omega))
                  have HN : Hid (T = joinT (o ++ [s[m]]) (textL (s.data.toList.drop (m + 1)))) := by
                    show T = _
                    rw [hT.out, hd, textL_byte _ _ h0, joinT_more]
                  have hR0 : Row wr.heap.size o u8 (wq.alloc (.cells #[.int .u8 s[m].toNat] 5)) := World.ownsRow.alloc hRB.out _
                  have hg0 := heap_alloc_new wq (.cells #[.int .u8 s[m].toNat] 5)
                  clear hd h0 hT
                  go_wp2_with (at_builtin; refine wpList_push rfl _ _ rfl wr.heap.size o s[m] _ wq.heap.size rfl hR0 rfl hg0 hol (by simp; omega) ?_; intro v' w3 hR3 hgrow)
                  have B3 := hid ((hB.out.alloc hwq (.cells #[.int .u8 s[m].toNat] 5)).grown hgrow (by simp; omega) (fun k hk => (World.ownsRow.lt hRB.out k hk).1))
                  have R3 := hid hR3
                  clear hR3 hgrow hR0 hg0
                  go_wp2_with fail
                  go_roundw
                  case rel => exact ⟨m + 1, _, by omega, by omega, by go_num, R3, by show List.length _ ≤ _; have := hOl.out; simp; omega, B3, Or.inl ⟨rfl, HN⟩⟩
                  case measure => simp [intOf]; omega
              · have hl : decide ((m : Int) < (s.size : Int)) = false := by simp; omega
                have HE := hid (HNone.out (by rw [hT.out, List.drop_of_length_le (by rw [HSL.out]; omega)]; rfl))
                clear hT
                go_wp2_with fail
                go_ret2
                rw [HE.out]
                exact ⟨_, rfl, ⟨rfl, Or.inl ⟨rfl, rfl⟩⟩, hb.out.trans (hB.out.mono hwr)⟩
            · have HN := hid (HSome.out _ hT.out)
              simp only at HN
              have hconv := fun (X : World) (h : Row wr.heap.size o u8 X) => Row.conv h
              have hconv1 := hconv wq hRB.out
              have HQ := hid (QOwn.below HR.out hB.out)
              have HB2 := hid (hb.out.trans (hB.out.mono hwr))
              have hR0 : QOwn w.heap.size acc u4 (wq.alloc (.cells #[.bool true, .int .i64 0, .string ⟨o.toArray⟩] 70)) := World.ownsRow.alloc HQ.out _
              have hg0 := heap_alloc_new wq (.cells #[.bool true, .int .i64 0, .string ⟨o.toArray⟩] 70)
              clear hconv hT
              by_cases hlm : m < s.size
              · have hl : decide ((m : Int) < (s.size : Int)) = true := by simp; omega
                have HMN : Hid (m ≤ s.size) := hm
                go_wp2_with (at_builtin; refine wpList_pushQ rfl _ _ rfl w.heap.size acc (textP o) _ wq.heap.size rfl hR0 rfl hg0 hal (by simp; omega) ?_; intro v' w3 hR3 hgrow)
                have B3 := hid ((HB2.out.alloc (by omega) (.cells #[.bool true, .int .i64 0, .string ⟨o.toArray⟩] 70)).grown hgrow (by simp; omega) (fun k hk => (World.ownsRow.lt HQ.out k hk).1))
                have R3 := hid hR3
                clear hR3 hgrow hR0 hg0
                go_wp2_with fail
                go_roundw
                case rel => exact ⟨m, _, hm, by go_num, R3, HN, by show List.length _ ≤ _; have := hO.out; simp; omega, B3⟩
                case measure => simp [intOf]; omega
              · have hl : decide ((m : Int) < (s.size : Int)) = false := by simp; omega
                have HMN : Hid (m ≤ s.size) := hm
                go_wp2_with (at_builtin; refine wpList_pushQ rfl _ _ rfl w.heap.size acc (textP o) _ wq.heap.size rfl hR0 rfl hg0 hal (by simp; omega) ?_; intro v' w3 hR3 hgrow)
                have B3 := hid ((HB2.out.alloc (by omega) (.cells #[.bool true, .int .i64 0, .string ⟨o.toArray⟩] 70)).grown hgrow (by simp; omega) (fun k hk => (World.ownsRow.lt HQ.out k hk).1))
                have R3 := hid hR3
                clear hR3 hgrow hR0 hg0
                go_wp2_with fail
                go_roundw
                case rel => exact ⟨m, _, hm, by go_num, R3, HN, by show List.length _ ≤ _; have := hO.out; simp; omega, B3⟩
                case measure => simp [intOf]; omega
        · have q2 : ((s[n].toNat : Int) != 2) = true := by rw [bne_iff_ne]; exact fun e => g2 (u8eq (b := 2) (by show _ = 2; omega))
          have HE : Hid (resOf U = ([], 4)) := by
            show _ = _
            rw [hL2.other g1 g2]; rfl
          clear hL2 hlen1 g1 g2 hR
          go_wp2_with fail
          go_ret2
          rw [HE.out]
          exact ⟨_, rfl, ⟨rfl, Or.inl ⟨rfl, rfl⟩⟩, hb.out⟩
    · have hl : decide ((n : Int) < (s.size : Int)) = false := by simp; omega
      have hU := hL.out
      rw [List.drop_of_length_le (by rw [HSL.out]; omega)] at hU
      have HU := hid hU.done
      obtain ⟨xa, c, hsv⟩ := hR.out.is.shape
      have HR := hid hR.out
      obtain ⟨m, hm⟩ : ∃ m, acc.length = m := ⟨_, rfl⟩
      rw [hm] at hsv
      subst hsv
      have HM := hid hm
      clear hU hL hR hm
      by_cases h16 : 16 < m
      · have t16 : decide ((16 : Int) < (m : Int)) = true := by simp; omega
        have HE : Hid (resOf U = ([], 4)) := by
          show _ = _
          rw [HU.out]; unfold resOf; simp only; rw [if_pos (by rw [HM.out]; exact h16)]
        go_wp2_with fail
        go_ret2
        rw [HE.out]
        exact ⟨_, rfl, ⟨rfl, Or.inl ⟨rfl, rfl⟩⟩, hb.out⟩
      · have t16 : decide ((16 : Int) < (m : Int)) = false := by simp; omega
        have HE : Hid (resOf U = (acc, 0)) := by
          show _ = _
          rw [HU.out]; unfold resOf; simp only; rw [if_neg (by rw [HM.out]; exact h16)]
        go_wp2_with fail
        go_ret2
        rw [HE.out]
        exact ⟨_, rfl, HR.out, hb.out⟩
end Go.Proofs.YtfadnhihcobclaaDoor
