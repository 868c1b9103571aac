/- The walk of ValueRings. -/
import Derived.Test.YtohdifffdgoaaaaDoorVWorks
import Derived.Test.YtohdifffdgoaaaaDoorVKv
namespace Go.Proofs.YtohdifffdgoaaaaDoor
open Go.RowKit
open Go.Lib (hid)
open V
/-- a reckoning of two numbers, its answer written out -/
def Rk (f : Nat) (a b : Int) (k : Nat) (n e : Int) : Prop := ∀ X, Tabs X → Calls Tryd.prog f #[.agg #[.int .u8 1, .int .i64 a, .bool false, .string ⟨#[]⟩], .agg #[.int .u8 1, .int .i64 b, .bool false, .string ⟨#[]⟩]] X fun e' w' => e' = .returned (.tuple #[.agg #[.int .u8 k, .int .i64 n, .bool false, .string ⟨#[]⟩], .int .i64 e]) ∧ Below X.heap.size X w'
theorem rk_add (a b : Int) (h : In a) (h' : In b) : Rk 12 a b (ranged (a + b)).k (ranged (a + b)).n (ranged (a + b)).e := fun X hX => addV ⟨1, a, false, ⟨#[]⟩⟩ ⟨1, b, false, ⟨#[]⟩⟩ X hX h h'
theorem rk_sub (a b : Int) (h : In a) (h' : In b) : Rk 15 a b (ranged (a - b)).k (ranged (a - b)).n (ranged (a - b)).e := fun X hX => subV ⟨1, a, false, ⟨#[]⟩⟩ ⟨1, b, false, ⟨#[]⟩⟩ X hX h h'
theorem rk_mul (a b : Int) (h : In a) (h' : In b) : Rk 16 a b (ranged (a * b)).k (ranged (a * b)).n (ranged (a * b)).e := fun X hX => mulV ⟨1, a, false, ⟨#[]⟩⟩ ⟨1, b, false, ⟨#[]⟩⟩ X hX h h'
theorem rk_div (a b : Int) (h : In a) : Rk 17 a b (divR a b).k (divR a b).n (divR a b).e := fun X hX => divV ⟨1, a, false, ⟨#[]⟩⟩ ⟨1, b, false, ⟨#[]⟩⟩ X hX h
theorem rk_mod (a b : Int) (h : In b) : Rk 18 a b (modR a b).k (modR a b).n (modR a b).e := fun X hX => modV ⟨1, a, false, ⟨#[]⟩⟩ ⟨1, b, false, ⟨#[]⟩⟩ X hX h
theorem tdiv_tmod (m n : Int) : m.tdiv n * n + m.tmod n = m := by
  have := Int.tdiv_mul_add_tmod m n
  exact this
theorem tmod_sign (m n : Int) (h : m.tmod n ≠ 0) : decide (m.tmod n < 0) = decide (m < 0) := by
  by_cases hm : m < 0
  · rw [decide_eq_true hm, decide_eq_true_eq]
    have h1 : (-m).tmod n = -(m.tmod n) := Int.neg_tmod ..
    have h2 : 0 ≤ (-m).tmod n := Int.tmod_nonneg n (by omega)
    omega
  · rw [decide_eq_false hm, decide_eq_false_iff_not]
    have h2 : 0 ≤ m.tmod n := Int.tmod_nonneg n (by omega)
    omega

set_option maxRecDepth 100000 in
set_option maxHeartbeats 8000000 in
theorem rings_y_zero (m n : Int) (w : World) (hE : VEnv w) (hm : In m) (hn : In n) (hs : In (m + n)) (h0 : n = 0) :
    Calls Tryd.prog 9 #[.int .i64 m, .int .i64 n] w fun e w' => e = .returned (.bool true) ∧ Below w.heap.size w w' := by
  have cA := rk_add m n hm hn
  rw [ranged_yes hs] at cA
  have cB := rk_add n m hn hm
  rw [show n + m = m + n by omega, ranged_yes hs] at cB
  have cS := rk_sub (m + n) n hs hn
  rw [show m + n - n = m by omega, ranged_yes hm] at cS
  obtain ⟨r1, hr1⟩ : ∃ r, m + n = r := ⟨_, rfl⟩
  rw [hr1] at cA cB cS
  replace cA : Rk 12 m n 1 r1 0 := cA
  replace cB : Rk 12 n m 1 r1 0 := cB
  replace cS : Rk 15 r1 n 1 m 0 := cS
  clear hr1
  have cP := rk_mul m n hm hn
  have cQ := rk_mul n m hn hm
  rw [Int.mul_comm n m] at cQ
  obtain ⟨⟨pk, pn, pe⟩, hp⟩ : ∃ R, ranged (m * n) = R := ⟨_, rfl⟩
  rw [hp] at cP cQ
  simp only at cP cQ
  clear hp
  have cD := rk_div m n hm
  have cM := rk_mod m n hn
  unfold divR at cD
  unfold modR at cM
  rw [if_pos h0] at cD cM
  replace cD : Rk 17 m n 0 0 91 := cD
  replace cM : Rk 18 m n 0 0 91 := cM
  have z0 : (n == 0) = true := beq_iff_eq.2 h0
  have n1 : ∀ W : World, (binOp .neq 23 (.agg #[.int .u8 1, .int .i64 r1, .bool false, .string ⟨#[]⟩]) (.agg #[.int .u8 1, .int .i64 r1, .bool false, .string ⟨#[]⟩])).run Tryd.prog W = .ok (.bool false) W := fun W => neq_no 1 (r1) false ⟨#[]⟩ W
  have n2 : ∀ W : World, (binOp .neq 23 (.agg #[.int .u8 pk, .int .i64 pn, .bool false, .string ⟨#[]⟩]) (.agg #[.int .u8 pk, .int .i64 pn, .bool false, .string ⟨#[]⟩])).run Tryd.prog W = .ok (.bool false) W := fun W => neq_no pk (pn) false ⟨#[]⟩ W
  have n3 : ∀ W : World, (binOp .neq 23 (.agg #[.int .u8 1, .int .i64 m, .bool false, .string ⟨#[]⟩]) (.agg #[.int .u8 1, .int .i64 m, .bool false, .string ⟨#[]⟩])).run Tryd.prog W = .ok (.bool false) W := fun W => neq_no 1 (m) false ⟨#[]⟩ W
  have HE := hid hE
  clear hE hm hn hs h0
  have HK := hid (KV.start w)
  go_enter Tryd.func9, Tryd.ntmps9
  go_wp2_with fail
  refine (works_any _ (HE.out.below HK.out.hb)).mono ?_
  rintro e w1 ⟨rfl, bb⟩
  have HK1 := hid (HK.out.below bb)
  clear bb HK 
  have HK := hid HK1.out
  clear HK1
  go_wp2_with fail
  refine (vnumber_any m _).mono ?_
  rintro e w2 ⟨rfl, bb⟩
  have HK1 := hid (HK.out.below bb)
  clear bb HK 
  have HK := hid HK1.out
  clear HK1
  go_upto_region 4 with fail
  have HK1 : Hid (KV ((w2.heap.size, ⟨1, m, false, ⟨#[]⟩⟩) :: []) w (w2.alloc (.cells #[.int .u8 1, .int .i64 m, .bool false, .string ⟨#[]⟩] 23))) := HK.out.box ⟨1, m, false, ⟨#[]⟩⟩
  generalize World.alloc w2 _ = w3 at *
  obtain ⟨ba, hba⟩ : ∃ ba, w2.heap.size = ba := ⟨_, rfl⟩
  rw [hba] at HK1 ⊢
  clear hba HK
  have HK := hid HK1.out
  clear HK1
  go_wp2_with fail
  refine (vnumber_any n _).mono ?_
  rintro e w4 ⟨rfl, bb⟩
  have HK1 := hid (HK.out.below bb)
  clear bb HK 
  have HK := hid HK1.out
  clear HK1
  go_upto_region 5 with fail
  have HK1 : Hid (KV ((w4.heap.size, ⟨1, n, false, ⟨#[]⟩⟩) :: [(ba, ⟨1, m, false, ⟨#[]⟩⟩)]) w (w4.alloc (.cells #[.int .u8 1, .int .i64 n, .bool false, .string ⟨#[]⟩] 23))) := HK.out.box ⟨1, n, false, ⟨#[]⟩⟩
  generalize World.alloc w4 _ = w5 at *
  obtain ⟨bb1, hbb1⟩ : ∃ bb1, w4.heap.size = bb1 := ⟨_, rfl⟩
  rw [hbb1] at HK1 ⊢
  clear hbb1 HK
  have HK := hid HK1.out
  clear HK1
  have h0 : w5.heap[ba]? = some (.cells #[.int .u8 1, .int .i64 m, .bool false, .string ⟨#[]⟩] 23 (0, 0)) := HK.out.got (ba, ⟨1, m, false, ⟨#[]⟩⟩) (by simp)
  obtain ⟨ba0, ba1, ba2, ba3⟩ := row4 h0
  clear h0
  have h0 : w5.heap[bb1]? = some (.cells #[.int .u8 1, .int .i64 n, .bool false, .string ⟨#[]⟩] 23 (0, 0)) := HK.out.got (bb1, ⟨1, n, false, ⟨#[]⟩⟩) (by simp)
  obtain ⟨bb10, bb11, bb12, bb13⟩ := row4 h0
  clear h0
  go_wp2_with fail
  refine (cA _ (HE.out.below HK.out.hb).tabs).mono ?_
  rintro e w6 ⟨rfl, bb⟩
  have HK1 := hid (HK.out.below bb)
  clear bb HK 
  have HK := hid HK1.out
  clear HK1
  clear ba0 ba1 ba2 ba3 bb10 bb11 bb12 bb13
  go_upto_region 6 with fail
  have HK1 : Hid (KV ((w6.heap.size, ⟨1, r1, false, ⟨#[]⟩⟩) :: [(bb1, ⟨1, n, false, ⟨#[]⟩⟩), (ba, ⟨1, m, false, ⟨#[]⟩⟩)]) w (w6.alloc (.cells #[.int .u8 1, .int .i64 r1, .bool false, .string ⟨#[]⟩] 23))) := HK.out.box ⟨1, r1, false, ⟨#[]⟩⟩
  generalize World.alloc w6 _ = w7 at *
  obtain ⟨bs, hbs⟩ : ∃ bs, w6.heap.size = bs := ⟨_, rfl⟩
  rw [hbs] at HK1 ⊢
  clear hbs HK
  have HK := hid HK1.out
  clear HK1
  have h0 : w7.heap[bb1]? = some (.cells #[.int .u8 1, .int .i64 n, .bool false, .string ⟨#[]⟩] 23 (0, 0)) := HK.out.got (bb1, ⟨1, n, false, ⟨#[]⟩⟩) (by simp)
  obtain ⟨bb10, bb11, bb12, bb13⟩ := row4 h0
  clear h0
  have h0 : w7.heap[ba]? = some (.cells #[.int .u8 1, .int .i64 m, .bool false, .string ⟨#[]⟩] 23 (0, 0)) := HK.out.got (ba, ⟨1, m, false, ⟨#[]⟩⟩) (by simp)
  obtain ⟨ba0, ba1, ba2, ba3⟩ := row4 h0
  clear h0
  go_wp2_with fail
  refine (cB _ (HE.out.below HK.out.hb).tabs).mono ?_
  rintro e w8 ⟨rfl, bb⟩
  have HK1 := hid (HK.out.below bb)
  clear bb HK 
  have HK := hid HK1.out
  clear HK1
  clear bb10 bb11 bb12 bb13 ba0 ba1 ba2 ba3
  go_upto_region 7 with fail
  have HK1 : Hid (KV ((w8.heap.size, ⟨1, r1, false, ⟨#[]⟩⟩) :: [(bs, ⟨1, r1, false, ⟨#[]⟩⟩), (bb1, ⟨1, n, false, ⟨#[]⟩⟩), (ba, ⟨1, m, false, ⟨#[]⟩⟩)]) w (w8.alloc (.cells #[.int .u8 1, .int .i64 r1, .bool false, .string ⟨#[]⟩] 23))) := HK.out.box ⟨1, r1, false, ⟨#[]⟩⟩
  generalize World.alloc w8 _ = w9 at *
  obtain ⟨bt, hbt⟩ : ∃ bt, w8.heap.size = bt := ⟨_, rfl⟩
  rw [hbt] at HK1 ⊢
  clear hbt HK
  have HK := hid HK1.out
  clear HK1
  have h0 : w9.heap[bs]? = some (.cells #[.int .u8 1, .int .i64 r1, .bool false, .string ⟨#[]⟩] 23 (0, 0)) := HK.out.got (bs, ⟨1, r1, false, ⟨#[]⟩⟩) (by simp)
  obtain ⟨bs0, bs1, bs2, bs3⟩ := row4 h0
  clear h0
  have h0 : w9.heap[bt]? = some (.cells #[.int .u8 1, .int .i64 r1, .bool false, .string ⟨#[]⟩] 23 (0, 0)) := HK.out.got (bt, ⟨1, r1, false, ⟨#[]⟩⟩) (by simp)
  obtain ⟨bt0, bt1, bt2, bt3⟩ := row4 h0
  clear h0
  have h0 : w9.heap[bb1]? = some (.cells #[.int .u8 1, .int .i64 n, .bool false, .string ⟨#[]⟩] 23 (0, 0)) := HK.out.got (bb1, ⟨1, n, false, ⟨#[]⟩⟩) (by simp)
  obtain ⟨bb10, bb11, bb12, bb13⟩ := row4 h0
  clear h0
  go_wp2_with fail
  refine (cS _ (HE.out.below HK.out.hb).tabs).mono ?_
  rintro e w10 ⟨rfl, bb⟩
  have HK1 := hid (HK.out.below bb)
  clear bb HK 
  have HK := hid HK1.out
  clear HK1
  clear bb10 bb11 bb12 bb13
  clear bs0 bs1 bs2 bs3 bt0 bt1 bt2 bt3
  go_upto_region 11 with fail
  have HK1 : Hid (KV ((w10.heap.size, ⟨1, m, false, ⟨#[]⟩⟩) :: [(bt, ⟨1, r1, false, ⟨#[]⟩⟩), (bs, ⟨1, r1, false, ⟨#[]⟩⟩), (bb1, ⟨1, n, false, ⟨#[]⟩⟩), (ba, ⟨1, m, false, ⟨#[]⟩⟩)]) w (w10.alloc (.cells #[.int .u8 1, .int .i64 m, .bool false, .string ⟨#[]⟩] 23))) := HK.out.box ⟨1, m, false, ⟨#[]⟩⟩
  generalize World.alloc w10 _ = w11 at *
  obtain ⟨bd, hbd⟩ : ∃ bd, w10.heap.size = bd := ⟨_, rfl⟩
  rw [hbd] at HK1 ⊢
  clear hbd HK
  have HK := hid HK1.out
  clear HK1
  have h0 : w11.heap[bd]? = some (.cells #[.int .u8 1, .int .i64 m, .bool false, .string ⟨#[]⟩] 23 (0, 0)) := HK.out.got (bd, ⟨1, m, false, ⟨#[]⟩⟩) (by simp)
  obtain ⟨bd0, bd1, bd2, bd3⟩ := row4 h0
  clear h0
  have h0 : w11.heap[ba]? = some (.cells #[.int .u8 1, .int .i64 m, .bool false, .string ⟨#[]⟩] 23 (0, 0)) := HK.out.got (ba, ⟨1, m, false, ⟨#[]⟩⟩) (by simp)
  obtain ⟨ba0, ba1, ba2, ba3⟩ := row4 h0
  clear h0
  have h0 : w11.heap[bb1]? = some (.cells #[.int .u8 1, .int .i64 n, .bool false, .string ⟨#[]⟩] 23 (0, 0)) := HK.out.got (bb1, ⟨1, n, false, ⟨#[]⟩⟩) (by simp)
  obtain ⟨bb10, bb11, bb12, bb13⟩ := row4 h0
  clear h0
  go_wp2_with fail
  refine (cP _ (HE.out.below HK.out.hb).tabs).mono ?_
  rintro e w12 ⟨rfl, bb⟩
  have HK1 := hid (HK.out.below bb)
  clear bb HK
  have HK := hid HK1.out
  clear HK1
  clear bd0 bd1 bd2 bd3 ba0 ba1 ba2 ba3 bb10 bb11 bb12 bb13
  go_upto_region 14 with fail
  have HK1 : Hid (KV ((w12.heap.size, ⟨pk, pn, false, ⟨#[]⟩⟩) :: [(bd, ⟨1, m, false, ⟨#[]⟩⟩), (bt, ⟨1, r1, false, ⟨#[]⟩⟩), (bs, ⟨1, r1, false, ⟨#[]⟩⟩), (bb1, ⟨1, n, false, ⟨#[]⟩⟩), (ba, ⟨1, m, false, ⟨#[]⟩⟩)]) w (w12.alloc (.cells #[.int .u8 pk, .int .i64 pn, .bool false, .string ⟨#[]⟩] 23))) := HK.out.box ⟨pk, pn, false, ⟨#[]⟩⟩
  generalize World.alloc w12 _ = w13 at *
  obtain ⟨bp, hbp⟩ : ∃ bp, w12.heap.size = bp := ⟨_, rfl⟩
  rw [hbp] at HK1 ⊢
  clear hbp HK
  have HK := hid HK1.out
  clear HK1
  have h0 : w13.heap[bb1]? = some (.cells #[.int .u8 1, .int .i64 n, .bool false, .string ⟨#[]⟩] 23 (0, 0)) := HK.out.got (bb1, ⟨1, n, false, ⟨#[]⟩⟩) (by simp)
  obtain ⟨bb10, bb11, bb12, bb13⟩ := row4 h0
  clear h0
  have h0 : w13.heap[ba]? = some (.cells #[.int .u8 1, .int .i64 m, .bool false, .string ⟨#[]⟩] 23 (0, 0)) := HK.out.got (ba, ⟨1, m, false, ⟨#[]⟩⟩) (by simp)
  obtain ⟨ba0, ba1, ba2, ba3⟩ := row4 h0
  clear h0
  go_wp2_with fail
  refine (cQ _ (HE.out.below HK.out.hb).tabs).mono ?_
  rintro e w14 ⟨rfl, bb⟩
  have HK1 := hid (HK.out.below bb)
  clear bb HK 
  have HK := hid HK1.out
  clear HK1
  clear bb10 bb11 bb12 bb13 ba0 ba1 ba2 ba3
  go_upto_region 15 with fail
  have HK1 : Hid (KV ((w14.heap.size, ⟨pk, pn, false, ⟨#[]⟩⟩) :: [(bp, ⟨pk, pn, false, ⟨#[]⟩⟩), (bd, ⟨1, m, false, ⟨#[]⟩⟩), (bt, ⟨1, r1, false, ⟨#[]⟩⟩), (bs, ⟨1, r1, false, ⟨#[]⟩⟩), (bb1, ⟨1, n, false, ⟨#[]⟩⟩), (ba, ⟨1, m, false, ⟨#[]⟩⟩)]) w (w14.alloc (.cells #[.int .u8 pk, .int .i64 pn, .bool false, .string ⟨#[]⟩] 23))) := HK.out.box ⟨pk, pn, false, ⟨#[]⟩⟩
  generalize World.alloc w14 _ = w15 at *
  obtain ⟨bq, hbq⟩ : ∃ bq, w14.heap.size = bq := ⟨_, rfl⟩
  rw [hbq] at HK1 ⊢
  clear hbq HK
  have HK := hid HK1.out
  clear HK1
  have h0 : w15.heap[bp]? = some (.cells #[.int .u8 pk, .int .i64 pn, .bool false, .string ⟨#[]⟩] 23 (0, 0)) := HK.out.got (bp, ⟨pk, pn, false, ⟨#[]⟩⟩) (by simp)
  obtain ⟨bp0, bp1, bp2, bp3⟩ := row4 h0
  clear h0
  have h0 : w15.heap[bq]? = some (.cells #[.int .u8 pk, .int .i64 pn, .bool false, .string ⟨#[]⟩] 23 (0, 0)) := HK.out.got (bq, ⟨pk, pn, false, ⟨#[]⟩⟩) (by simp)
  obtain ⟨bq0, bq1, bq2, bq3⟩ := row4 h0
  clear h0
  have h0 : w15.heap[ba]? = some (.cells #[.int .u8 1, .int .i64 m, .bool false, .string ⟨#[]⟩] 23 (0, 0)) := HK.out.got (ba, ⟨1, m, false, ⟨#[]⟩⟩) (by simp)
  obtain ⟨ba0, ba1, ba2, ba3⟩ := row4 h0
  clear h0
  have h0 : w15.heap[bb1]? = some (.cells #[.int .u8 1, .int .i64 n, .bool false, .string ⟨#[]⟩] 23 (0, 0)) := HK.out.got (bb1, ⟨1, n, false, ⟨#[]⟩⟩) (by simp)
  obtain ⟨bb10, bb11, bb12, bb13⟩ := row4 h0
  clear h0
  go_wp2_with fail
  refine (cD _ (HE.out.below HK.out.hb).tabs).mono ?_
  rintro e w16 ⟨rfl, bb⟩
  have HK1 := hid (HK.out.below bb)
  clear bb HK 
  have HK := hid HK1.out
  clear HK1
  clear ba0 ba1 ba2 ba3 bb10 bb11 bb12 bb13
  clear bp0 bp1 bp2 bp3 bq0 bq1 bq2 bq3
  go_upto_region 18 with fail
  have HK1 : Hid (KV ((w16.heap.size, ⟨0, 0, false, ⟨#[]⟩⟩) :: [(bq, ⟨pk, pn, false, ⟨#[]⟩⟩), (bp, ⟨pk, pn, false, ⟨#[]⟩⟩), (bd, ⟨1, m, false, ⟨#[]⟩⟩), (bt, ⟨1, r1, false, ⟨#[]⟩⟩), (bs, ⟨1, r1, false, ⟨#[]⟩⟩), (bb1, ⟨1, n, false, ⟨#[]⟩⟩), (ba, ⟨1, m, false, ⟨#[]⟩⟩)]) w (w16.alloc (.cells #[.int .u8 0, .int .i64 0, .bool false, .string ⟨#[]⟩] 23))) := HK.out.box ⟨0, 0, false, ⟨#[]⟩⟩
  generalize World.alloc w16 _ = w17 at *
  obtain ⟨bd2, hbd2⟩ : ∃ bd2, w16.heap.size = bd2 := ⟨_, rfl⟩
  rw [hbd2] at HK1 ⊢
  clear hbd2 HK
  have HK := hid HK1.out
  clear HK1
  have h0 : w17.heap[ba]? = some (.cells #[.int .u8 1, .int .i64 m, .bool false, .string ⟨#[]⟩] 23 (0, 0)) := HK.out.got (ba, ⟨1, m, false, ⟨#[]⟩⟩) (by simp)
  obtain ⟨ba0, ba1, ba2, ba3⟩ := row4 h0
  clear h0
  have h0 : w17.heap[bb1]? = some (.cells #[.int .u8 1, .int .i64 n, .bool false, .string ⟨#[]⟩] 23 (0, 0)) := HK.out.got (bb1, ⟨1, n, false, ⟨#[]⟩⟩) (by simp)
  obtain ⟨bb10, bb11, bb12, bb13⟩ := row4 h0
  clear h0
  go_wp2_with fail
  refine (cM _ (HE.out.below HK.out.hb).tabs).mono ?_
  rintro e w18 ⟨rfl, bb⟩
  have HK1 := hid (HK.out.below bb)
  clear bb HK 
  have HK := hid HK1.out
  clear HK1
  clear ba0 ba1 ba2 ba3 bb10 bb11 bb12 bb13
  go_upto_region 19 with fail
  have HK1 : Hid (KV ((w18.heap.size, ⟨0, 0, false, ⟨#[]⟩⟩) :: [(bd2, ⟨0, 0, false, ⟨#[]⟩⟩), (bq, ⟨pk, pn, false, ⟨#[]⟩⟩), (bp, ⟨pk, pn, false, ⟨#[]⟩⟩), (bd, ⟨1, m, false, ⟨#[]⟩⟩), (bt, ⟨1, r1, false, ⟨#[]⟩⟩), (bs, ⟨1, r1, false, ⟨#[]⟩⟩), (bb1, ⟨1, n, false, ⟨#[]⟩⟩), (ba, ⟨1, m, false, ⟨#[]⟩⟩)]) w (w18.alloc (.cells #[.int .u8 0, .int .i64 0, .bool false, .string ⟨#[]⟩] 23))) := HK.out.box ⟨0, 0, false, ⟨#[]⟩⟩
  generalize World.alloc w18 _ = w19 at *
  obtain ⟨br, hbr⟩ : ∃ br, w18.heap.size = br := ⟨_, rfl⟩
  rw [hbr] at HK1 ⊢
  clear hbr HK
  have HK := hid HK1.out
  clear HK1
  go_wp2_with fail
  go_ret
  exact ⟨rfl, HK.out.hb⟩

set_option maxRecDepth 100000 in
set_option maxHeartbeats 8000000 in
theorem rings_y_over (m n : Int) (w : World) (hE : VEnv w) (hm : In m) (hn : In n) (hs : In (m + n)) (h1 : m = -9223372036854775808) (h2 : n = -1) :
    Calls Tryd.prog 9 #[.int .i64 m, .int .i64 n] w fun e w' => e = .returned (.bool true) ∧ Below w.heap.size w w' := by
  have cA := rk_add m n hm hn
  rw [ranged_yes hs] at cA
  have cB := rk_add n m hn hm
  rw [show n + m = m + n by omega, ranged_yes hs] at cB
  have cS := rk_sub (m + n) n hs hn
  rw [show m + n - n = m by omega, ranged_yes hm] at cS
  obtain ⟨r1, hr1⟩ : ∃ r, m + n = r := ⟨_, rfl⟩
  rw [hr1] at cA cB cS
  replace cA : Rk 12 m n 1 r1 0 := cA
  replace cB : Rk 12 n m 1 r1 0 := cB
  replace cS : Rk 15 r1 n 1 m 0 := cS
  clear hr1
  have cP := rk_mul m n hm hn
  have cQ := rk_mul n m hn hm
  rw [Int.mul_comm n m] at cQ
  obtain ⟨⟨pk, pn, pe⟩, hp⟩ : ∃ R, ranged (m * n) = R := ⟨_, rfl⟩
  rw [hp] at cP cQ
  simp only at cP cQ
  clear hp
  have cD := rk_div m n hm
  have cM := rk_mod m n hn
  have eD : divR m n = over := by
    subst h1 h2; unfold divR; rw [if_neg (by decide)]; exact ranged_no (by intro hh; exact absurd hh.2 (by decide))
  have eM : modR m n = num 0 := by subst h2; exact modR_minus m
  rw [eD] at cD
  rw [eM] at cM
  replace cD : Rk 17 m n 0 0 91 := cD
  replace cM : Rk 18 m n 1 0 0 := cM
  have z0 : (n == 0) = false := beq_eq_false_iff_ne.2 (by omega)
  have z1 : (m == -9223372036854775808) = true := beq_iff_eq.2 h1
  have z2 : (n == -1) = true := beq_iff_eq.2 h2
  have cF := fun X => far_any 0 X (by decide) (by decide)
  have cG : ∀ X, Calls Tryd.prog 43 #[.int .i64 n] X fun e w' => e = .returned (.int .u64 1) ∧ w' = X := fun X => by
    rw [h2]; exact far_any (-1) X (by decide) (by decide)
  replace cF : ∀ X, Calls Tryd.prog 43 #[.int .i64 0] X fun e w' => e = .returned (.int .u64 0) ∧ w' = X := cF
  clear eD eM
  have n1 : ∀ W : World, (binOp .neq 23 (.agg #[.int .u8 1, .int .i64 r1, .bool false, .string ⟨#[]⟩]) (.agg #[.int .u8 1, .int .i64 r1, .bool false, .string ⟨#[]⟩])).run Tryd.prog W = .ok (.bool false) W := fun W => neq_no 1 (r1) false ⟨#[]⟩ W
  have n2 : ∀ W : World, (binOp .neq 23 (.agg #[.int .u8 pk, .int .i64 pn, .bool false, .string ⟨#[]⟩]) (.agg #[.int .u8 pk, .int .i64 pn, .bool false, .string ⟨#[]⟩])).run Tryd.prog W = .ok (.bool false) W := fun W => neq_no pk (pn) false ⟨#[]⟩ W
  have n3 : ∀ W : World, (binOp .neq 23 (.agg #[.int .u8 1, .int .i64 m, .bool false, .string ⟨#[]⟩]) (.agg #[.int .u8 1, .int .i64 m, .bool false, .string ⟨#[]⟩])).run Tryd.prog W = .ok (.bool false) W := fun W => neq_no 1 (m) false ⟨#[]⟩ W
  have HE := hid hE
  clear hE hm hn hs h1 h2
  have HK := hid (KV.start w)
  go_enter Tryd.func9, Tryd.ntmps9
  go_wp2_with fail
  refine (works_any _ (HE.out.below HK.out.hb)).mono ?_
  rintro e w1 ⟨rfl, bb⟩
  have HK1 := hid (HK.out.below bb)
  clear bb HK 
  have HK := hid HK1.out
  clear HK1
  go_wp2_with fail
  refine (vnumber_any m _).mono ?_
  rintro e w2 ⟨rfl, bb⟩
  have HK1 := hid (HK.out.below bb)
  clear bb HK 
  have HK := hid HK1.out
  clear HK1
  go_upto_region 4 with fail
  have HK1 : Hid (KV ((w2.heap.size, ⟨1, m, false, ⟨#[]⟩⟩) :: []) w (w2.alloc (.cells #[.int .u8 1, .int .i64 m, .bool false, .string ⟨#[]⟩] 23))) := HK.out.box ⟨1, m, false, ⟨#[]⟩⟩
  generalize World.alloc w2 _ = w3 at *
  obtain ⟨ba, hba⟩ : ∃ ba, w2.heap.size = ba := ⟨_, rfl⟩
  rw [hba] at HK1 ⊢
  clear hba HK
  have HK := hid HK1.out
  clear HK1
  go_wp2_with fail
  refine (vnumber_any n _).mono ?_
  rintro e w4 ⟨rfl, bb⟩
  have HK1 := hid (HK.out.below bb)
  clear bb HK 
  have HK := hid HK1.out
  clear HK1
  go_upto_region 5 with fail
  have HK1 : Hid (KV ((w4.heap.size, ⟨1, n, false, ⟨#[]⟩⟩) :: [(ba, ⟨1, m, false, ⟨#[]⟩⟩)]) w (w4.alloc (.cells #[.int .u8 1, .int .i64 n, .bool false, .string ⟨#[]⟩] 23))) := HK.out.box ⟨1, n, false, ⟨#[]⟩⟩
  generalize World.alloc w4 _ = w5 at *
  obtain ⟨bb1, hbb1⟩ : ∃ bb1, w4.heap.size = bb1 := ⟨_, rfl⟩
  rw [hbb1] at HK1 ⊢
  clear hbb1 HK
  have HK := hid HK1.out
  clear HK1
  have h0 : w5.heap[ba]? = some (.cells #[.int .u8 1, .int .i64 m, .bool false, .string ⟨#[]⟩] 23 (0, 0)) := HK.out.got (ba, ⟨1, m, false, ⟨#[]⟩⟩) (by simp)
  obtain ⟨ba0, ba1, ba2, ba3⟩ := row4 h0
  clear h0
  have h0 : w5.heap[bb1]? = some (.cells #[.int .u8 1, .int .i64 n, .bool false, .string ⟨#[]⟩] 23 (0, 0)) := HK.out.got (bb1, ⟨1, n, false, ⟨#[]⟩⟩) (by simp)
  obtain ⟨bb10, bb11, bb12, bb13⟩ := row4 h0
  clear h0
  go_wp2_with fail
  refine (cA _ (HE.out.below HK.out.hb).tabs).mono ?_
  rintro e w6 ⟨rfl, bb⟩
  have HK1 := hid (HK.out.below bb)
  clear bb HK 
  have HK := hid HK1.out
  clear HK1
  clear ba0 ba1 ba2 ba3 bb10 bb11 bb12 bb13
  go_upto_region 6 with fail
  have HK1 : Hid (KV ((w6.heap.size, ⟨1, r1, false, ⟨#[]⟩⟩) :: [(bb1, ⟨1, n, false, ⟨#[]⟩⟩), (ba, ⟨1, m, false, ⟨#[]⟩⟩)]) w (w6.alloc (.cells #[.int .u8 1, .int .i64 r1, .bool false, .string ⟨#[]⟩] 23))) := HK.out.box ⟨1, r1, false, ⟨#[]⟩⟩
  generalize World.alloc w6 _ = w7 at *
  obtain ⟨bs, hbs⟩ : ∃ bs, w6.heap.size = bs := ⟨_, rfl⟩
  rw [hbs] at HK1 ⊢
  clear hbs HK
  have HK := hid HK1.out
  clear HK1
  have h0 : w7.heap[bb1]? = some (.cells #[.int .u8 1, .int .i64 n, .bool false, .string ⟨#[]⟩] 23 (0, 0)) := HK.out.got (bb1, ⟨1, n, false, ⟨#[]⟩⟩) (by simp)
  obtain ⟨bb10, bb11, bb12, bb13⟩ := row4 h0
  clear h0
  have h0 : w7.heap[ba]? = some (.cells #[.int .u8 1, .int .i64 m, .bool false, .string ⟨#[]⟩] 23 (0, 0)) := HK.out.got (ba, ⟨1, m, false, ⟨#[]⟩⟩) (by simp)
  obtain ⟨ba0, ba1, ba2, ba3⟩ := row4 h0
  clear h0
  go_wp2_with fail
  refine (cB _ (HE.out.below HK.out.hb).tabs).mono ?_
  rintro e w8 ⟨rfl, bb⟩
  have HK1 := hid (HK.out.below bb)
  clear bb HK 
  have HK := hid HK1.out
  clear HK1
  clear bb10 bb11 bb12 bb13 ba0 ba1 ba2 ba3
  go_upto_region 7 with fail
  have HK1 : Hid (KV ((w8.heap.size, ⟨1, r1, false, ⟨#[]⟩⟩) :: [(bs, ⟨1, r1, false, ⟨#[]⟩⟩), (bb1, ⟨1, n, false, ⟨#[]⟩⟩), (ba, ⟨1, m, false, ⟨#[]⟩⟩)]) w (w8.alloc (.cells #[.int .u8 1, .int .i64 r1, .bool false, .string ⟨#[]⟩] 23))) := HK.out.box ⟨1, r1, false, ⟨#[]⟩⟩
  generalize World.alloc w8 _ = w9 at *
  obtain ⟨bt, hbt⟩ : ∃ bt, w8.heap.size = bt := ⟨_, rfl⟩
  rw [hbt] at HK1 ⊢
  clear hbt HK
  have HK := hid HK1.out
  clear HK1
  have h0 : w9.heap[bs]? = some (.cells #[.int .u8 1, .int .i64 r1, .bool false, .string ⟨#[]⟩] 23 (0, 0)) := HK.out.got (bs, ⟨1, r1, false, ⟨#[]⟩⟩) (by simp)
  obtain ⟨bs0, bs1, bs2, bs3⟩ := row4 h0
  clear h0
  have h0 : w9.heap[bt]? = some (.cells #[.int .u8 1, .int .i64 r1, .bool false, .string ⟨#[]⟩] 23 (0, 0)) := HK.out.got (bt, ⟨1, r1, false, ⟨#[]⟩⟩) (by simp)
  obtain ⟨bt0, bt1, bt2, bt3⟩ := row4 h0
  clear h0
  have h0 : w9.heap[bb1]? = some (.cells #[.int .u8 1, .int .i64 n, .bool false, .string ⟨#[]⟩] 23 (0, 0)) := HK.out.got (bb1, ⟨1, n, false, ⟨#[]⟩⟩) (by simp)
  obtain ⟨bb10, bb11, bb12, bb13⟩ := row4 h0
  clear h0
  go_wp2_with fail
  refine (cS _ (HE.out.below HK.out.hb).tabs).mono ?_
  rintro e w10 ⟨rfl, bb⟩
  have HK1 := hid (HK.out.below bb)
  clear bb HK 
  have HK := hid HK1.out
  clear HK1
  clear bb10 bb11 bb12 bb13
  clear bs0 bs1 bs2 bs3 bt0 bt1 bt2 bt3
  go_upto_region 11 with fail
  have HK1 : Hid (KV ((w10.heap.size, ⟨1, m, false, ⟨#[]⟩⟩) :: [(bt, ⟨1, r1, false, ⟨#[]⟩⟩), (bs, ⟨1, r1, false, ⟨#[]⟩⟩), (bb1, ⟨1, n, false, ⟨#[]⟩⟩), (ba, ⟨1, m, false, ⟨#[]⟩⟩)]) w (w10.alloc (.cells #[.int .u8 1, .int .i64 m, .bool false, .string ⟨#[]⟩] 23))) := HK.out.box ⟨1, m, false, ⟨#[]⟩⟩
  generalize World.alloc w10 _ = w11 at *
  obtain ⟨bd, hbd⟩ : ∃ bd, w10.heap.size = bd := ⟨_, rfl⟩
  rw [hbd] at HK1 ⊢
  clear hbd HK
  have HK := hid HK1.out
  clear HK1
  have h0 : w11.heap[bd]? = some (.cells #[.int .u8 1, .int .i64 m, .bool false, .string ⟨#[]⟩] 23 (0, 0)) := HK.out.got (bd, ⟨1, m, false, ⟨#[]⟩⟩) (by simp)
  obtain ⟨bd0, bd1, bd2, bd3⟩ := row4 h0
  clear h0
  have h0 : w11.heap[ba]? = some (.cells #[.int .u8 1, .int .i64 m, .bool false, .string ⟨#[]⟩] 23 (0, 0)) := HK.out.got (ba, ⟨1, m, false, ⟨#[]⟩⟩) (by simp)
  obtain ⟨ba0, ba1, ba2, ba3⟩ := row4 h0
  clear h0
  have h0 : w11.heap[bb1]? = some (.cells #[.int .u8 1, .int .i64 n, .bool false, .string ⟨#[]⟩] 23 (0, 0)) := HK.out.got (bb1, ⟨1, n, false, ⟨#[]⟩⟩) (by simp)
  obtain ⟨bb10, bb11, bb12, bb13⟩ := row4 h0
  clear h0
  go_wp2_with fail
  refine (cP _ (HE.out.below HK.out.hb).tabs).mono ?_
  rintro e w12 ⟨rfl, bb⟩
  have HK1 := hid (HK.out.below bb)
  clear bb HK
  have HK := hid HK1.out
  clear HK1
  clear bd0 bd1 bd2 bd3 ba0 ba1 ba2 ba3 bb10 bb11 bb12 bb13
  go_upto_region 14 with fail
  have HK1 : Hid (KV ((w12.heap.size, ⟨pk, pn, false, ⟨#[]⟩⟩) :: [(bd, ⟨1, m, false, ⟨#[]⟩⟩), (bt, ⟨1, r1, false, ⟨#[]⟩⟩), (bs, ⟨1, r1, false, ⟨#[]⟩⟩), (bb1, ⟨1, n, false, ⟨#[]⟩⟩), (ba, ⟨1, m, false, ⟨#[]⟩⟩)]) w (w12.alloc (.cells #[.int .u8 pk, .int .i64 pn, .bool false, .string ⟨#[]⟩] 23))) := HK.out.box ⟨pk, pn, false, ⟨#[]⟩⟩
  generalize World.alloc w12 _ = w13 at *
  obtain ⟨bp, hbp⟩ : ∃ bp, w12.heap.size = bp := ⟨_, rfl⟩
  rw [hbp] at HK1 ⊢
  clear hbp HK
  have HK := hid HK1.out
  clear HK1
  have h0 : w13.heap[bb1]? = some (.cells #[.int .u8 1, .int .i64 n, .bool false, .string ⟨#[]⟩] 23 (0, 0)) := HK.out.got (bb1, ⟨1, n, false, ⟨#[]⟩⟩) (by simp)
  obtain ⟨bb10, bb11, bb12, bb13⟩ := row4 h0
  clear h0
  have h0 : w13.heap[ba]? = some (.cells #[.int .u8 1, .int .i64 m, .bool false, .string ⟨#[]⟩] 23 (0, 0)) := HK.out.got (ba, ⟨1, m, false, ⟨#[]⟩⟩) (by simp)
  obtain ⟨ba0, ba1, ba2, ba3⟩ := row4 h0
  clear h0
  go_wp2_with fail
  refine (cQ _ (HE.out.below HK.out.hb).tabs).mono ?_
  rintro e w14 ⟨rfl, bb⟩
  have HK1 := hid (HK.out.below bb)
  clear bb HK 
  have HK := hid HK1.out
  clear HK1
  clear bb10 bb11 bb12 bb13 ba0 ba1 ba2 ba3
  go_upto_region 15 with fail
  have HK1 : Hid (KV ((w14.heap.size, ⟨pk, pn, false, ⟨#[]⟩⟩) :: [(bp, ⟨pk, pn, false, ⟨#[]⟩⟩), (bd, ⟨1, m, false, ⟨#[]⟩⟩), (bt, ⟨1, r1, false, ⟨#[]⟩⟩), (bs, ⟨1, r1, false, ⟨#[]⟩⟩), (bb1, ⟨1, n, false, ⟨#[]⟩⟩), (ba, ⟨1, m, false, ⟨#[]⟩⟩)]) w (w14.alloc (.cells #[.int .u8 pk, .int .i64 pn, .bool false, .string ⟨#[]⟩] 23))) := HK.out.box ⟨pk, pn, false, ⟨#[]⟩⟩
  generalize World.alloc w14 _ = w15 at *
  obtain ⟨bq, hbq⟩ : ∃ bq, w14.heap.size = bq := ⟨_, rfl⟩
  rw [hbq] at HK1 ⊢
  clear hbq HK
  have HK := hid HK1.out
  clear HK1
  have h0 : w15.heap[bp]? = some (.cells #[.int .u8 pk, .int .i64 pn, .bool false, .string ⟨#[]⟩] 23 (0, 0)) := HK.out.got (bp, ⟨pk, pn, false, ⟨#[]⟩⟩) (by simp)
  obtain ⟨bp0, bp1, bp2, bp3⟩ := row4 h0
  clear h0
  have h0 : w15.heap[bq]? = some (.cells #[.int .u8 pk, .int .i64 pn, .bool false, .string ⟨#[]⟩] 23 (0, 0)) := HK.out.got (bq, ⟨pk, pn, false, ⟨#[]⟩⟩) (by simp)
  obtain ⟨bq0, bq1, bq2, bq3⟩ := row4 h0
  clear h0
  have h0 : w15.heap[ba]? = some (.cells #[.int .u8 1, .int .i64 m, .bool false, .string ⟨#[]⟩] 23 (0, 0)) := HK.out.got (ba, ⟨1, m, false, ⟨#[]⟩⟩) (by simp)
  obtain ⟨ba0, ba1, ba2, ba3⟩ := row4 h0
  clear h0
  have h0 : w15.heap[bb1]? = some (.cells #[.int .u8 1, .int .i64 n, .bool false, .string ⟨#[]⟩] 23 (0, 0)) := HK.out.got (bb1, ⟨1, n, false, ⟨#[]⟩⟩) (by simp)
  obtain ⟨bb10, bb11, bb12, bb13⟩ := row4 h0
  clear h0
  go_wp2_with fail
  refine (cD _ (HE.out.below HK.out.hb).tabs).mono ?_
  rintro e w16 ⟨rfl, bb⟩
  have HK1 := hid (HK.out.below bb)
  clear bb HK 
  have HK := hid HK1.out
  clear HK1
  clear ba0 ba1 ba2 ba3 bb10 bb11 bb12 bb13
  clear bp0 bp1 bp2 bp3 bq0 bq1 bq2 bq3
  go_upto_region 18 with fail
  have HK1 : Hid (KV ((w16.heap.size, ⟨0, 0, false, ⟨#[]⟩⟩) :: [(bq, ⟨pk, pn, false, ⟨#[]⟩⟩), (bp, ⟨pk, pn, false, ⟨#[]⟩⟩), (bd, ⟨1, m, false, ⟨#[]⟩⟩), (bt, ⟨1, r1, false, ⟨#[]⟩⟩), (bs, ⟨1, r1, false, ⟨#[]⟩⟩), (bb1, ⟨1, n, false, ⟨#[]⟩⟩), (ba, ⟨1, m, false, ⟨#[]⟩⟩)]) w (w16.alloc (.cells #[.int .u8 0, .int .i64 0, .bool false, .string ⟨#[]⟩] 23))) := HK.out.box ⟨0, 0, false, ⟨#[]⟩⟩
  generalize World.alloc w16 _ = w17 at *
  obtain ⟨bd2, hbd2⟩ : ∃ bd2, w16.heap.size = bd2 := ⟨_, rfl⟩
  rw [hbd2] at HK1 ⊢
  clear hbd2 HK
  have HK := hid HK1.out
  clear HK1
  have h0 : w17.heap[ba]? = some (.cells #[.int .u8 1, .int .i64 m, .bool false, .string ⟨#[]⟩] 23 (0, 0)) := HK.out.got (ba, ⟨1, m, false, ⟨#[]⟩⟩) (by simp)
  obtain ⟨ba0, ba1, ba2, ba3⟩ := row4 h0
  clear h0
  have h0 : w17.heap[bb1]? = some (.cells #[.int .u8 1, .int .i64 n, .bool false, .string ⟨#[]⟩] 23 (0, 0)) := HK.out.got (bb1, ⟨1, n, false, ⟨#[]⟩⟩) (by simp)
  obtain ⟨bb10, bb11, bb12, bb13⟩ := row4 h0
  clear h0
  go_wp2_with fail
  refine (cM _ (HE.out.below HK.out.hb).tabs).mono ?_
  rintro e w18 ⟨rfl, bb⟩
  have HK1 := hid (HK.out.below bb)
  clear bb HK 
  have HK := hid HK1.out
  clear HK1
  clear ba0 ba1 ba2 ba3 bb10 bb11 bb12 bb13
  go_upto_region 19 with fail
  have HK1 : Hid (KV ((w18.heap.size, ⟨1, 0, false, ⟨#[]⟩⟩) :: [(bd2, ⟨0, 0, false, ⟨#[]⟩⟩), (bq, ⟨pk, pn, false, ⟨#[]⟩⟩), (bp, ⟨pk, pn, false, ⟨#[]⟩⟩), (bd, ⟨1, m, false, ⟨#[]⟩⟩), (bt, ⟨1, r1, false, ⟨#[]⟩⟩), (bs, ⟨1, r1, false, ⟨#[]⟩⟩), (bb1, ⟨1, n, false, ⟨#[]⟩⟩), (ba, ⟨1, m, false, ⟨#[]⟩⟩)]) w (w18.alloc (.cells #[.int .u8 1, .int .i64 0, .bool false, .string ⟨#[]⟩] 23))) := HK.out.box ⟨1, 0, false, ⟨#[]⟩⟩
  generalize World.alloc w18 _ = w19 at *
  obtain ⟨br, hbr⟩ : ∃ br, w18.heap.size = br := ⟨_, rfl⟩
  rw [hbr] at HK1 ⊢
  clear hbr HK
  have HK := hid HK1.out
  clear HK1
  have h0 : w19.heap[br]? = some (.cells #[.int .u8 1, .int .i64 0, .bool false, .string ⟨#[]⟩] 23 (0, 0)) := HK.out.got (br, ⟨1, 0, false, ⟨#[]⟩⟩) (by simp)
  obtain ⟨br0, br1, br2, br3⟩ := row4 h0
  clear h0
  go_wp2_with fail
  refine (cF _).mono ?_
  rintro e ww ⟨rfl, rfl⟩
  go_wp2_with fail
  refine (cG _).mono ?_
  rintro e ww2 ⟨rfl, rfl⟩
  go_wp2_with fail
  go_ret
  exact ⟨rfl, HK.out.hb⟩

set_option maxRecDepth 100000 in
set_option maxHeartbeats 8000000 in
theorem rings_y_norm (m n : Int) (w : World) (hE : VEnv w) (hm : In m) (hn : In n) (hs : In (m + n)) (h0 : n ≠ 0) (h1 : ¬ (m = -9223372036854775808 ∧ n = -1)) :
    Calls Tryd.prog 9 #[.int .i64 m, .int .i64 n] w fun e w' => e = .returned (.bool true) ∧ Below w.heap.size w w' := by
  have cA := rk_add m n hm hn
  rw [ranged_yes hs] at cA
  have cB := rk_add n m hn hm
  rw [show n + m = m + n by omega, ranged_yes hs] at cB
  have cS := rk_sub (m + n) n hs hn
  rw [show m + n - n = m by omega, ranged_yes hm] at cS
  obtain ⟨r1, hr1⟩ : ∃ r, m + n = r := ⟨_, rfl⟩
  rw [hr1] at cA cB cS
  replace cA : Rk 12 m n 1 r1 0 := cA
  replace cB : Rk 12 n m 1 r1 0 := cB
  replace cS : Rk 15 r1 n 1 m 0 := cS
  clear hr1
  have cP := rk_mul m n hm hn
  have cQ := rk_mul n m hn hm
  rw [Int.mul_comm n m] at cQ
  obtain ⟨⟨pk, pn, pe⟩, hp⟩ : ∃ R, ranged (m * n) = R := ⟨_, rfl⟩
  rw [hp] at cP cQ
  simp only at cP cQ
  clear hp
  have cD := rk_div m n hm
  have cM := rk_mod m n hn
  unfold divR at cD
  unfold modR at cM
  have i1 := tdiv_in hm h0 h1
  have i2 := tmod_in (n := m) hn h0
  rw [if_neg h0] at cD cM
  rw [ranged_yes i1] at cD
  rw [ranged_yes i2] at cM
  have cX := rk_mul (m.tdiv n) n i1 hn
  have hk := tdiv_tmod m n
  have hab : (m.tmod n).natAbs < n.natAbs := by
    have hk : (m.tmod n).natAbs = m.natAbs % n.natAbs := Int.natAbs_tmod m n
    have := Nat.mod_lt m.natAbs (show 0 < n.natAbs by omega)
    omega
  have hsg : m.tmod n ≠ 0 → (decide (m.tmod n < 0) = decide (m < 0)) := tmod_sign m n
  have hle : (m.tmod n).natAbs ≤ m.natAbs := by
    have hk : (m.tmod n).natAbs = m.natAbs % n.natAbs := Int.natAbs_tmod m n
    have := Nat.mod_le m.natAbs n.natAbs
    omega
  obtain ⟨q, hq⟩ : ∃ q, m.tdiv n = q := ⟨_, rfl⟩
  obtain ⟨r, hr⟩ : ∃ r, m.tmod n = r := ⟨_, rfl⟩
  rw [hq] at cD cX i1 hk
  rw [hr] at cM i2 hk hab hsg hle
  obtain ⟨x, hx⟩ : ∃ x, q * n = x := ⟨_, rfl⟩
  rw [hx] at hk cX
  have ix : In x := by
    have e : x = m - r := by omega
    by_cases hr0 : r = 0
    · rw [e, hr0]; simpa using hm
    · have h3 := hsg hr0
      unfold In at hm ⊢
      by_cases hm0 : m < 0
      · rw [decide_eq_true hm0, decide_eq_true_eq] at h3; omega
      · rw [decide_eq_false hm0, decide_eq_false_iff_not] at h3; omega
  rw [ranged_yes ix] at cX
  have cY := rk_add x r ix i2
  rw [hk, ranged_yes hm] at cY
  replace cD : Rk 17 m n 1 q 0 := cD
  replace cM : Rk 18 m n 1 r 0 := cM
  replace cX : Rk 16 q n 1 x 0 := cX
  replace cY : Rk 12 x r 1 m 0 := cY
  have z0 : (n == 0) = false := beq_eq_false_iff_ne.2 h0
  have cF := fun X => far_any r X i2.1 i2.2
  have cG := fun X => far_any n X hn.1 hn.2
  obtain ⟨a1, ha1⟩ : ∃ a, r.natAbs = a := ⟨_, rfl⟩
  obtain ⟨a2, ha2⟩ : ∃ a, n.natAbs = a := ⟨_, rfl⟩
  rw [ha1] at cF hab
  rw [ha2] at cG hab
  have z3 : decide ((a2 : Int) ≤ (a1 : Int)) = false := by simp; omega
  have z4 : decide (a2 ≤ a1) = false := by simp; omega
  have cE := fun W => eq_yes 1 m false ⟨#[]⟩ W
  replace cE : ∀ W : World, (binOp .eql 23 (.agg #[.int .u8 1, .int .i64 m, .bool false, .string ⟨#[]⟩]) (.agg #[.int .u8 1, .int .i64 m, .bool false, .string ⟨#[]⟩])).run Tryd.prog W = .ok (.bool true) W := cE
  clear ha1 ha2 hx hq hr hk hab ix i1 i2 hle
  have n1 : ∀ W : World, (binOp .neq 23 (.agg #[.int .u8 1, .int .i64 r1, .bool false, .string ⟨#[]⟩]) (.agg #[.int .u8 1, .int .i64 r1, .bool false, .string ⟨#[]⟩])).run Tryd.prog W = .ok (.bool false) W := fun W => neq_no 1 (r1) false ⟨#[]⟩ W
  have n2 : ∀ W : World, (binOp .neq 23 (.agg #[.int .u8 pk, .int .i64 pn, .bool false, .string ⟨#[]⟩]) (.agg #[.int .u8 pk, .int .i64 pn, .bool false, .string ⟨#[]⟩])).run Tryd.prog W = .ok (.bool false) W := fun W => neq_no pk (pn) false ⟨#[]⟩ W
  have n3 : ∀ W : World, (binOp .neq 23 (.agg #[.int .u8 1, .int .i64 m, .bool false, .string ⟨#[]⟩]) (.agg #[.int .u8 1, .int .i64 m, .bool false, .string ⟨#[]⟩])).run Tryd.prog W = .ok (.bool false) W := fun W => neq_no 1 (m) false ⟨#[]⟩ W
  have HE := hid hE
  by_cases hr0 : r = 0
  · have y0 : (r != 0) = false := by simp [hr0]
    have y1 : (r == 0) = true := by simp [hr0]
    clear hE hm hn hs hr0 hsg h0 h1
    have HK := hid (KV.start w)
    go_enter Tryd.func9, Tryd.ntmps9
    go_wp2_with fail
    refine (works_any _ (HE.out.below HK.out.hb)).mono ?_
    rintro e w1 ⟨rfl, bb⟩
    have HK1 := hid (HK.out.below bb)
    clear bb HK 
    have HK := hid HK1.out
    clear HK1
    go_wp2_with fail
    refine (vnumber_any m _).mono ?_
    rintro e w2 ⟨rfl, bb⟩
    have HK1 := hid (HK.out.below bb)
    clear bb HK 
    have HK := hid HK1.out
    clear HK1
    go_upto_region 4 with fail
    have HK1 : Hid (KV ((w2.heap.size, ⟨1, m, false, ⟨#[]⟩⟩) :: []) w (w2.alloc (.cells #[.int .u8 1, .int .i64 m, .bool false, .string ⟨#[]⟩] 23))) := HK.out.box ⟨1, m, false, ⟨#[]⟩⟩
    generalize World.alloc w2 _ = w3 at *
    obtain ⟨ba, hba⟩ : ∃ ba, w2.heap.size = ba := ⟨_, rfl⟩
    rw [hba] at HK1 ⊢
    clear hba HK
    have HK := hid HK1.out
    clear HK1
    go_wp2_with fail
    refine (vnumber_any n _).mono ?_
    rintro e w4 ⟨rfl, bb⟩
    have HK1 := hid (HK.out.below bb)
    clear bb HK 
    have HK := hid HK1.out
    clear HK1
    go_upto_region 5 with fail
    have HK1 : Hid (KV ((w4.heap.size, ⟨1, n, false, ⟨#[]⟩⟩) :: [(ba, ⟨1, m, false, ⟨#[]⟩⟩)]) w (w4.alloc (.cells #[.int .u8 1, .int .i64 n, .bool false, .string ⟨#[]⟩] 23))) := HK.out.box ⟨1, n, false, ⟨#[]⟩⟩
    generalize World.alloc w4 _ = w5 at *
    obtain ⟨bb1, hbb1⟩ : ∃ bb1, w4.heap.size = bb1 := ⟨_, rfl⟩
    rw [hbb1] at HK1 ⊢
    clear hbb1 HK
    have HK := hid HK1.out
    clear HK1
    have h0 : w5.heap[ba]? = some (.cells #[.int .u8 1, .int .i64 m, .bool false, .string ⟨#[]⟩] 23 (0, 0)) := HK.out.got (ba, ⟨1, m, false, ⟨#[]⟩⟩) (by simp)
    obtain ⟨ba0, ba1, ba2, ba3⟩ := row4 h0
    clear h0
    have h0 : w5.heap[bb1]? = some (.cells #[.int .u8 1, .int .i64 n, .bool false, .string ⟨#[]⟩] 23 (0, 0)) := HK.out.got (bb1, ⟨1, n, false, ⟨#[]⟩⟩) (by simp)
    obtain ⟨bb10, bb11, bb12, bb13⟩ := row4 h0
    clear h0
    go_wp2_with fail
    refine (cA _ (HE.out.below HK.out.hb).tabs).mono ?_
    rintro e w6 ⟨rfl, bb⟩
    have HK1 := hid (HK.out.below bb)
    clear bb HK 
    have HK := hid HK1.out
    clear HK1
    clear ba0 ba1 ba2 ba3 bb10 bb11 bb12 bb13
    go_upto_region 6 with fail
    have HK1 : Hid (KV ((w6.heap.size, ⟨1, r1, false, ⟨#[]⟩⟩) :: [(bb1, ⟨1, n, false, ⟨#[]⟩⟩), (ba, ⟨1, m, false, ⟨#[]⟩⟩)]) w (w6.alloc (.cells #[.int .u8 1, .int .i64 r1, .bool false, .string ⟨#[]⟩] 23))) := HK.out.box ⟨1, r1, false, ⟨#[]⟩⟩
    generalize World.alloc w6 _ = w7 at *
    obtain ⟨bs, hbs⟩ : ∃ bs, w6.heap.size = bs := ⟨_, rfl⟩
    rw [hbs] at HK1 ⊢
    clear hbs HK
    have HK := hid HK1.out
    clear HK1
    have h0 : w7.heap[bb1]? = some (.cells #[.int .u8 1, .int .i64 n, .bool false, .string ⟨#[]⟩] 23 (0, 0)) := HK.out.got (bb1, ⟨1, n, false, ⟨#[]⟩⟩) (by simp)
    obtain ⟨bb10, bb11, bb12, bb13⟩ := row4 h0
    clear h0
    have h0 : w7.heap[ba]? = some (.cells #[.int .u8 1, .int .i64 m, .bool false, .string ⟨#[]⟩] 23 (0, 0)) := HK.out.got (ba, ⟨1, m, false, ⟨#[]⟩⟩) (by simp)
    obtain ⟨ba0, ba1, ba2, ba3⟩ := row4 h0
    clear h0
    go_wp2_with fail
    refine (cB _ (HE.out.below HK.out.hb).tabs).mono ?_
    rintro e w8 ⟨rfl, bb⟩
    have HK1 := hid (HK.out.below bb)
    clear bb HK 
    have HK := hid HK1.out
    clear HK1
    clear bb10 bb11 bb12 bb13 ba0 ba1 ba2 ba3
    go_upto_region 7 with fail
    have HK1 : Hid (KV ((w8.heap.size, ⟨1, r1, false, ⟨#[]⟩⟩) :: [(bs, ⟨1, r1, false, ⟨#[]⟩⟩), (bb1, ⟨1, n, false, ⟨#[]⟩⟩), (ba, ⟨1, m, false, ⟨#[]⟩⟩)]) w (w8.alloc (.cells #[.int .u8 1, .int .i64 r1, .bool false, .string ⟨#[]⟩] 23))) := HK.out.box ⟨1, r1, false, ⟨#[]⟩⟩
    generalize World.alloc w8 _ = w9 at *
    obtain ⟨bt, hbt⟩ : ∃ bt, w8.heap.size = bt := ⟨_, rfl⟩
    rw [hbt] at HK1 ⊢
    clear hbt HK
    have HK := hid HK1.out
    clear HK1
    have h0 : w9.heap[bs]? = some (.cells #[.int .u8 1, .int .i64 r1, .bool false, .string ⟨#[]⟩] 23 (0, 0)) := HK.out.got (bs, ⟨1, r1, false, ⟨#[]⟩⟩) (by simp)
    obtain ⟨bs0, bs1, bs2, bs3⟩ := row4 h0
    clear h0
    have h0 : w9.heap[bt]? = some (.cells #[.int .u8 1, .int .i64 r1, .bool false, .string ⟨#[]⟩] 23 (0, 0)) := HK.out.got (bt, ⟨1, r1, false, ⟨#[]⟩⟩) (by simp)
    obtain ⟨bt0, bt1, bt2, bt3⟩ := row4 h0
    clear h0
    have h0 : w9.heap[bb1]? = some (.cells #[.int .u8 1, .int .i64 n, .bool false, .string ⟨#[]⟩] 23 (0, 0)) := HK.out.got (bb1, ⟨1, n, false, ⟨#[]⟩⟩) (by simp)
    obtain ⟨bb10, bb11, bb12, bb13⟩ := row4 h0
    clear h0
    go_wp2_with fail
    refine (cS _ (HE.out.below HK.out.hb).tabs).mono ?_
    rintro e w10 ⟨rfl, bb⟩
    have HK1 := hid (HK.out.below bb)
    clear bb HK 
    have HK := hid HK1.out
    clear HK1
    clear bb10 bb11 bb12 bb13
    clear bs0 bs1 bs2 bs3 bt0 bt1 bt2 bt3
    go_upto_region 11 with fail
    have HK1 : Hid (KV ((w10.heap.size, ⟨1, m, false, ⟨#[]⟩⟩) :: [(bt, ⟨1, r1, false, ⟨#[]⟩⟩), (bs, ⟨1, r1, false, ⟨#[]⟩⟩), (bb1, ⟨1, n, false, ⟨#[]⟩⟩), (ba, ⟨1, m, false, ⟨#[]⟩⟩)]) w (w10.alloc (.cells #[.int .u8 1, .int .i64 m, .bool false, .string ⟨#[]⟩] 23))) := HK.out.box ⟨1, m, false, ⟨#[]⟩⟩
    generalize World.alloc w10 _ = w11 at *
    obtain ⟨bd, hbd⟩ : ∃ bd, w10.heap.size = bd := ⟨_, rfl⟩
    rw [hbd] at HK1 ⊢
    clear hbd HK
    have HK := hid HK1.out
    clear HK1
    have h0 : w11.heap[bd]? = some (.cells #[.int .u8 1, .int .i64 m, .bool false, .string ⟨#[]⟩] 23 (0, 0)) := HK.out.got (bd, ⟨1, m, false, ⟨#[]⟩⟩) (by simp)
    obtain ⟨bd0, bd1, bd2, bd3⟩ := row4 h0
    clear h0
    have h0 : w11.heap[ba]? = some (.cells #[.int .u8 1, .int .i64 m, .bool false, .string ⟨#[]⟩] 23 (0, 0)) := HK.out.got (ba, ⟨1, m, false, ⟨#[]⟩⟩) (by simp)
    obtain ⟨ba0, ba1, ba2, ba3⟩ := row4 h0
    clear h0
    have h0 : w11.heap[bb1]? = some (.cells #[.int .u8 1, .int .i64 n, .bool false, .string ⟨#[]⟩] 23 (0, 0)) := HK.out.got (bb1, ⟨1, n, false, ⟨#[]⟩⟩) (by simp)
    obtain ⟨bb10, bb11, bb12, bb13⟩ := row4 h0
    clear h0
    go_wp2_with fail
    refine (cP _ (HE.out.below HK.out.hb).tabs).mono ?_
    rintro e w12 ⟨rfl, bb⟩
    have HK1 := hid (HK.out.below bb)
    clear bb HK
    have HK := hid HK1.out
    clear HK1
    clear bd0 bd1 bd2 bd3 ba0 ba1 ba2 ba3 bb10 bb11 bb12 bb13
    go_upto_region 14 with fail
    have HK1 : Hid (KV ((w12.heap.size, ⟨pk, pn, false, ⟨#[]⟩⟩) :: [(bd, ⟨1, m, false, ⟨#[]⟩⟩), (bt, ⟨1, r1, false, ⟨#[]⟩⟩), (bs, ⟨1, r1, false, ⟨#[]⟩⟩), (bb1, ⟨1, n, false, ⟨#[]⟩⟩), (ba, ⟨1, m, false, ⟨#[]⟩⟩)]) w (w12.alloc (.cells #[.int .u8 pk, .int .i64 pn, .bool false, .string ⟨#[]⟩] 23))) := HK.out.box ⟨pk, pn, false, ⟨#[]⟩⟩
    generalize World.alloc w12 _ = w13 at *
    obtain ⟨bp, hbp⟩ : ∃ bp, w12.heap.size = bp := ⟨_, rfl⟩
    rw [hbp] at HK1 ⊢
    clear hbp HK
    have HK := hid HK1.out
    clear HK1
    have h0 : w13.heap[bb1]? = some (.cells #[.int .u8 1, .int .i64 n, .bool false, .string ⟨#[]⟩] 23 (0, 0)) := HK.out.got (bb1, ⟨1, n, false, ⟨#[]⟩⟩) (by simp)
    obtain ⟨bb10, bb11, bb12, bb13⟩ := row4 h0
    clear h0
    have h0 : w13.heap[ba]? = some (.cells #[.int .u8 1, .int .i64 m, .bool false, .string ⟨#[]⟩] 23 (0, 0)) := HK.out.got (ba, ⟨1, m, false, ⟨#[]⟩⟩) (by simp)
    obtain ⟨ba0, ba1, ba2, ba3⟩ := row4 h0
    clear h0
    go_wp2_with fail
    refine (cQ _ (HE.out.below HK.out.hb).tabs).mono ?_
    rintro e w14 ⟨rfl, bb⟩
    have HK1 := hid (HK.out.below bb)
    clear bb HK 
    have HK := hid HK1.out
    clear HK1
    clear bb10 bb11 bb12 bb13 ba0 ba1 ba2 ba3
    go_upto_region 15 with fail
    have HK1 : Hid (KV ((w14.heap.size, ⟨pk, pn, false, ⟨#[]⟩⟩) :: [(bp, ⟨pk, pn, false, ⟨#[]⟩⟩), (bd, ⟨1, m, false, ⟨#[]⟩⟩), (bt, ⟨1, r1, false, ⟨#[]⟩⟩), (bs, ⟨1, r1, false, ⟨#[]⟩⟩), (bb1, ⟨1, n, false, ⟨#[]⟩⟩), (ba, ⟨1, m, false, ⟨#[]⟩⟩)]) w (w14.alloc (.cells #[.int .u8 pk, .int .i64 pn, .bool false, .string ⟨#[]⟩] 23))) := HK.out.box ⟨pk, pn, false, ⟨#[]⟩⟩
    generalize World.alloc w14 _ = w15 at *
    obtain ⟨bq, hbq⟩ : ∃ bq, w14.heap.size = bq := ⟨_, rfl⟩
    rw [hbq] at HK1 ⊢
    clear hbq HK
    have HK := hid HK1.out
    clear HK1
    have h0 : w15.heap[bp]? = some (.cells #[.int .u8 pk, .int .i64 pn, .bool false, .string ⟨#[]⟩] 23 (0, 0)) := HK.out.got (bp, ⟨pk, pn, false, ⟨#[]⟩⟩) (by simp)
    obtain ⟨bp0, bp1, bp2, bp3⟩ := row4 h0
    clear h0
    have h0 : w15.heap[bq]? = some (.cells #[.int .u8 pk, .int .i64 pn, .bool false, .string ⟨#[]⟩] 23 (0, 0)) := HK.out.got (bq, ⟨pk, pn, false, ⟨#[]⟩⟩) (by simp)
    obtain ⟨bq0, bq1, bq2, bq3⟩ := row4 h0
    clear h0
    have h0 : w15.heap[ba]? = some (.cells #[.int .u8 1, .int .i64 m, .bool false, .string ⟨#[]⟩] 23 (0, 0)) := HK.out.got (ba, ⟨1, m, false, ⟨#[]⟩⟩) (by simp)
    obtain ⟨ba0, ba1, ba2, ba3⟩ := row4 h0
    clear h0
    have h0 : w15.heap[bb1]? = some (.cells #[.int .u8 1, .int .i64 n, .bool false, .string ⟨#[]⟩] 23 (0, 0)) := HK.out.got (bb1, ⟨1, n, false, ⟨#[]⟩⟩) (by simp)
    obtain ⟨bb10, bb11, bb12, bb13⟩ := row4 h0
    clear h0
    go_wp2_with fail
    refine (cD _ (HE.out.below HK.out.hb).tabs).mono ?_
    rintro e w16 ⟨rfl, bb⟩
    have HK1 := hid (HK.out.below bb)
    clear bb HK 
    have HK := hid HK1.out
    clear HK1
    clear ba0 ba1 ba2 ba3 bb10 bb11 bb12 bb13
    clear bp0 bp1 bp2 bp3 bq0 bq1 bq2 bq3
    go_upto_region 18 with fail
    have HK1 : Hid (KV ((w16.heap.size, ⟨1, q, false, ⟨#[]⟩⟩) :: [(bq, ⟨pk, pn, false, ⟨#[]⟩⟩), (bp, ⟨pk, pn, false, ⟨#[]⟩⟩), (bd, ⟨1, m, false, ⟨#[]⟩⟩), (bt, ⟨1, r1, false, ⟨#[]⟩⟩), (bs, ⟨1, r1, false, ⟨#[]⟩⟩), (bb1, ⟨1, n, false, ⟨#[]⟩⟩), (ba, ⟨1, m, false, ⟨#[]⟩⟩)]) w (w16.alloc (.cells #[.int .u8 1, .int .i64 q, .bool false, .string ⟨#[]⟩] 23))) := HK.out.box ⟨1, q, false, ⟨#[]⟩⟩
    generalize World.alloc w16 _ = w17 at *
    obtain ⟨bd2, hbd2⟩ : ∃ bd2, w16.heap.size = bd2 := ⟨_, rfl⟩
    rw [hbd2] at HK1 ⊢
    clear hbd2 HK
    have HK := hid HK1.out
    clear HK1
    have h0 : w17.heap[ba]? = some (.cells #[.int .u8 1, .int .i64 m, .bool false, .string ⟨#[]⟩] 23 (0, 0)) := HK.out.got (ba, ⟨1, m, false, ⟨#[]⟩⟩) (by simp)
    obtain ⟨ba0, ba1, ba2, ba3⟩ := row4 h0
    clear h0
    have h0 : w17.heap[bb1]? = some (.cells #[.int .u8 1, .int .i64 n, .bool false, .string ⟨#[]⟩] 23 (0, 0)) := HK.out.got (bb1, ⟨1, n, false, ⟨#[]⟩⟩) (by simp)
    obtain ⟨bb10, bb11, bb12, bb13⟩ := row4 h0
    clear h0
    go_wp2_with fail
    refine (cM _ (HE.out.below HK.out.hb).tabs).mono ?_
    rintro e w18 ⟨rfl, bb⟩
    have HK1 := hid (HK.out.below bb)
    clear bb HK 
    have HK := hid HK1.out
    clear HK1
    clear ba0 ba1 ba2 ba3 bb10 bb11 bb12 bb13
    go_upto_region 19 with fail
    have HK1 : Hid (KV ((w18.heap.size, ⟨1, r, false, ⟨#[]⟩⟩) :: [(bd2, ⟨1, q, false, ⟨#[]⟩⟩), (bq, ⟨pk, pn, false, ⟨#[]⟩⟩), (bp, ⟨pk, pn, false, ⟨#[]⟩⟩), (bd, ⟨1, m, false, ⟨#[]⟩⟩), (bt, ⟨1, r1, false, ⟨#[]⟩⟩), (bs, ⟨1, r1, false, ⟨#[]⟩⟩), (bb1, ⟨1, n, false, ⟨#[]⟩⟩), (ba, ⟨1, m, false, ⟨#[]⟩⟩)]) w (w18.alloc (.cells #[.int .u8 1, .int .i64 r, .bool false, .string ⟨#[]⟩] 23))) := HK.out.box ⟨1, r, false, ⟨#[]⟩⟩
    generalize World.alloc w18 _ = w19 at *
    obtain ⟨br, hbr⟩ : ∃ br, w18.heap.size = br := ⟨_, rfl⟩
    rw [hbr] at HK1 ⊢
    clear hbr HK
    have HK := hid HK1.out
    clear HK1
    have h0 : w19.heap[br]? = some (.cells #[.int .u8 1, .int .i64 r, .bool false, .string ⟨#[]⟩] 23 (0, 0)) := HK.out.got (br, ⟨1, r, false, ⟨#[]⟩⟩) (by simp)
    obtain ⟨br0, br1, br2, br3⟩ := row4 h0
    clear h0
    go_wp2_with fail
    refine (cF _).mono ?_
    rintro e ww ⟨rfl, rfl⟩
    go_wp2_with fail
    refine (cG _).mono ?_
    rintro e ww2 ⟨rfl, rfl⟩
    obtain ⟨wz, hwz⟩ : ∃ wz : World, wz = wz := ⟨w, rfl⟩
    clear hwz wz
    clear br0 br1 br2 br3
    have HK1 := hid HK.out
    clear HK
    have HK := hid HK1.out
    clear HK1
    have h0 : ww2.heap[bd2]? = some (.cells #[.int .u8 1, .int .i64 q, .bool false, .string ⟨#[]⟩] 23 (0, 0)) := HK.out.got (bd2, ⟨1, q, false, ⟨#[]⟩⟩) (by simp)
    obtain ⟨bd20, bd21, bd22, bd23⟩ := row4 h0
    clear h0
    have h0 : ww2.heap[bb1]? = some (.cells #[.int .u8 1, .int .i64 n, .bool false, .string ⟨#[]⟩] 23 (0, 0)) := HK.out.got (bb1, ⟨1, n, false, ⟨#[]⟩⟩) (by simp)
    obtain ⟨bb10, bb11, bb12, bb13⟩ := row4 h0
    clear h0
    go_wp2_with fail
    refine (cX _ (HE.out.below HK.out.hb).tabs).mono ?_
    rintro e v1 ⟨rfl, bb⟩
    have HK1 := hid (HK.out.below bb)
    clear bb HK 
    have HK := hid HK1.out
    clear HK1
    clear bd20 bd21 bd22 bd23 bb10 bb11 bb12 bb13
    go_upto_region 26 with fail
    have HK1 : Hid (KV ((v1.heap.size, ⟨1, x, false, ⟨#[]⟩⟩) :: [(br, ⟨1, r, false, ⟨#[]⟩⟩), (bd2, ⟨1, q, false, ⟨#[]⟩⟩), (bq, ⟨pk, pn, false, ⟨#[]⟩⟩), (bp, ⟨pk, pn, false, ⟨#[]⟩⟩), (bd, ⟨1, m, false, ⟨#[]⟩⟩), (bt, ⟨1, r1, false, ⟨#[]⟩⟩), (bs, ⟨1, r1, false, ⟨#[]⟩⟩), (bb1, ⟨1, n, false, ⟨#[]⟩⟩), (ba, ⟨1, m, false, ⟨#[]⟩⟩)]) w (v1.alloc (.cells #[.int .u8 1, .int .i64 x, .bool false, .string ⟨#[]⟩] 23))) := HK.out.box ⟨1, x, false, ⟨#[]⟩⟩
    generalize World.alloc v1 _ = v2 at *
    obtain ⟨bx, hbx⟩ : ∃ bx, v1.heap.size = bx := ⟨_, rfl⟩
    rw [hbx] at HK1 ⊢
    clear hbx HK
    have HK := hid HK1.out
    clear HK1
    have h0 : v2.heap[bx]? = some (.cells #[.int .u8 1, .int .i64 x, .bool false, .string ⟨#[]⟩] 23 (0, 0)) := HK.out.got (bx, ⟨1, x, false, ⟨#[]⟩⟩) (by simp)
    obtain ⟨bx0, bx1, bx2, bx3⟩ := row4 h0
    clear h0
    have h0 : v2.heap[br]? = some (.cells #[.int .u8 1, .int .i64 r, .bool false, .string ⟨#[]⟩] 23 (0, 0)) := HK.out.got (br, ⟨1, r, false, ⟨#[]⟩⟩) (by simp)
    obtain ⟨br0, br1, br2, br3⟩ := row4 h0
    clear h0
    go_wp2_with fail
    refine (cY _ (HE.out.below HK.out.hb).tabs).mono ?_
    rintro e v3 ⟨rfl, bb⟩
    have HK1 := hid (HK.out.below bb)
    clear bb HK 
    have HK := hid HK1.out
    clear HK1
    clear bx0 bx1 bx2 bx3 br0 br1 br2 br3
    go_upto_region 27 with fail
    have HK1 : Hid (KV ((v3.heap.size, ⟨1, m, false, ⟨#[]⟩⟩) :: [(bx, ⟨1, x, false, ⟨#[]⟩⟩), (br, ⟨1, r, false, ⟨#[]⟩⟩), (bd2, ⟨1, q, false, ⟨#[]⟩⟩), (bq, ⟨pk, pn, false, ⟨#[]⟩⟩), (bp, ⟨pk, pn, false, ⟨#[]⟩⟩), (bd, ⟨1, m, false, ⟨#[]⟩⟩), (bt, ⟨1, r1, false, ⟨#[]⟩⟩), (bs, ⟨1, r1, false, ⟨#[]⟩⟩), (bb1, ⟨1, n, false, ⟨#[]⟩⟩), (ba, ⟨1, m, false, ⟨#[]⟩⟩)]) w (v3.alloc (.cells #[.int .u8 1, .int .i64 m, .bool false, .string ⟨#[]⟩] 23))) := HK.out.box ⟨1, m, false, ⟨#[]⟩⟩
    generalize World.alloc v3 _ = v4 at *
    obtain ⟨by1, hby1⟩ : ∃ by1, v3.heap.size = by1 := ⟨_, rfl⟩
    rw [hby1] at HK1 ⊢
    clear hby1 HK
    have HK := hid HK1.out
    clear HK1
    have h0 : v4.heap[by1]? = some (.cells #[.int .u8 1, .int .i64 m, .bool false, .string ⟨#[]⟩] 23 (0, 0)) := HK.out.got (by1, ⟨1, m, false, ⟨#[]⟩⟩) (by simp)
    obtain ⟨by10, by11, by12, by13⟩ := row4 h0
    clear h0
    have h0 : v4.heap[ba]? = some (.cells #[.int .u8 1, .int .i64 m, .bool false, .string ⟨#[]⟩] 23 (0, 0)) := HK.out.got (ba, ⟨1, m, false, ⟨#[]⟩⟩) (by simp)
    obtain ⟨ba0, ba1, ba2, ba3⟩ := row4 h0
    clear h0
    go_wp2_with fail
    go_ret
    exact ⟨rfl, HK.out.hb⟩
  · have y0 : (r != 0) = true := by rw [bne_iff_ne]; exact hr0
    have y1 : (r == 0) = false := beq_eq_false_iff_ne.2 hr0
    have y2 := hsg hr0
    obtain ⟨sg, hsgn⟩ : ∃ b, decide (m < 0) = b := ⟨_, rfl⟩
    rw [hsgn] at y2
    clear hE hm hn hs hr0 hsg h0 h1
    have HK := hid (KV.start w)
    go_enter Tryd.func9, Tryd.ntmps9
    go_wp2_with fail
    refine (works_any _ (HE.out.below HK.out.hb)).mono ?_
    rintro e w1 ⟨rfl, bb⟩
    have HK1 := hid (HK.out.below bb)
    clear bb HK 
    have HK := hid HK1.out
    clear HK1
    go_wp2_with fail
    refine (vnumber_any m _).mono ?_
    rintro e w2 ⟨rfl, bb⟩
    have HK1 := hid (HK.out.below bb)
    clear bb HK 
    have HK := hid HK1.out
    clear HK1
    go_upto_region 4 with fail
    have HK1 : Hid (KV ((w2.heap.size, ⟨1, m, false, ⟨#[]⟩⟩) :: []) w (w2.alloc (.cells #[.int .u8 1, .int .i64 m, .bool false, .string ⟨#[]⟩] 23))) := HK.out.box ⟨1, m, false, ⟨#[]⟩⟩
    generalize World.alloc w2 _ = w3 at *
    obtain ⟨ba, hba⟩ : ∃ ba, w2.heap.size = ba := ⟨_, rfl⟩
    rw [hba] at HK1 ⊢
    clear hba HK
    have HK := hid HK1.out
    clear HK1
    go_wp2_with fail
    refine (vnumber_any n _).mono ?_
    rintro e w4 ⟨rfl, bb⟩
    have HK1 := hid (HK.out.below bb)
    clear bb HK 
    have HK := hid HK1.out
    clear HK1
    go_upto_region 5 with fail
    have HK1 : Hid (KV ((w4.heap.size, ⟨1, n, false, ⟨#[]⟩⟩) :: [(ba, ⟨1, m, false, ⟨#[]⟩⟩)]) w (w4.alloc (.cells #[.int .u8 1, .int .i64 n, .bool false, .string ⟨#[]⟩] 23))) := HK.out.box ⟨1, n, false, ⟨#[]⟩⟩
    generalize World.alloc w4 _ = w5 at *
    obtain ⟨bb1, hbb1⟩ : ∃ bb1, w4.heap.size = bb1 := ⟨_, rfl⟩
    rw [hbb1] at HK1 ⊢
    clear hbb1 HK
    have HK := hid HK1.out
    clear HK1
    have h0 : w5.heap[ba]? = some (.cells #[.int .u8 1, .int .i64 m, .bool false, .string ⟨#[]⟩] 23 (0, 0)) := HK.out.got (ba, ⟨1, m, false, ⟨#[]⟩⟩) (by simp)
    obtain ⟨ba0, ba1, ba2, ba3⟩ := row4 h0
    clear h0
    have h0 : w5.heap[bb1]? = some (.cells #[.int .u8 1, .int .i64 n, .bool false, .string ⟨#[]⟩] 23 (0, 0)) := HK.out.got (bb1, ⟨1, n, false, ⟨#[]⟩⟩) (by simp)
    obtain ⟨bb10, bb11, bb12, bb13⟩ := row4 h0
    clear h0
    go_wp2_with fail
    refine (cA _ (HE.out.below HK.out.hb).tabs).mono ?_
    rintro e w6 ⟨rfl, bb⟩
    have HK1 := hid (HK.out.below bb)
    clear bb HK 
    have HK := hid HK1.out
    clear HK1
    clear ba0 ba1 ba2 ba3 bb10 bb11 bb12 bb13
    go_upto_region 6 with fail
    have HK1 : Hid (KV ((w6.heap.size, ⟨1, r1, false, ⟨#[]⟩⟩) :: [(bb1, ⟨1, n, false, ⟨#[]⟩⟩), (ba, ⟨1, m, false, ⟨#[]⟩⟩)]) w (w6.alloc (.cells #[.int .u8 1, .int .i64 r1, .bool false, .string ⟨#[]⟩] 23))) := HK.out.box ⟨1, r1, false, ⟨#[]⟩⟩
    generalize World.alloc w6 _ = w7 at *
    obtain ⟨bs, hbs⟩ : ∃ bs, w6.heap.size = bs := ⟨_, rfl⟩
    rw [hbs] at HK1 ⊢
    clear hbs HK
    have HK := hid HK1.out
    clear HK1
    have h0 : w7.heap[bb1]? = some (.cells #[.int .u8 1, .int .i64 n, .bool false, .string ⟨#[]⟩] 23 (0, 0)) := HK.out.got (bb1, ⟨1, n, false, ⟨#[]⟩⟩) (by simp)
    obtain ⟨bb10, bb11, bb12, bb13⟩ := row4 h0
    clear h0
    have h0 : w7.heap[ba]? = some (.cells #[.int .u8 1, .int .i64 m, .bool false, .string ⟨#[]⟩] 23 (0, 0)) := HK.out.got (ba, ⟨1, m, false, ⟨#[]⟩⟩) (by simp)
    obtain ⟨ba0, ba1, ba2, ba3⟩ := row4 h0
    clear h0
    go_wp2_with fail
    refine (cB _ (HE.out.below HK.out.hb).tabs).mono ?_
    rintro e w8 ⟨rfl, bb⟩
    have HK1 := hid (HK.out.below bb)
    clear bb HK 
    have HK := hid HK1.out
    clear HK1
    clear bb10 bb11 bb12 bb13 ba0 ba1 ba2 ba3
    go_upto_region 7 with fail
    have HK1 : Hid (KV ((w8.heap.size, ⟨1, r1, false, ⟨#[]⟩⟩) :: [(bs, ⟨1, r1, false, ⟨#[]⟩⟩), (bb1, ⟨1, n, false, ⟨#[]⟩⟩), (ba, ⟨1, m, false, ⟨#[]⟩⟩)]) w (w8.alloc (.cells #[.int .u8 1, .int .i64 r1, .bool false, .string ⟨#[]⟩] 23))) := HK.out.box ⟨1, r1, false, ⟨#[]⟩⟩
    generalize World.alloc w8 _ = w9 at *
    obtain ⟨bt, hbt⟩ : ∃ bt, w8.heap.size = bt := ⟨_, rfl⟩
    rw [hbt] at HK1 ⊢
    clear hbt HK
    have HK := hid HK1.out
    clear HK1
    have h0 : w9.heap[bs]? = some (.cells #[.int .u8 1, .int .i64 r1, .bool false, .string ⟨#[]⟩] 23 (0, 0)) := HK.out.got (bs, ⟨1, r1, false, ⟨#[]⟩⟩) (by simp)
    obtain ⟨bs0, bs1, bs2, bs3⟩ := row4 h0
    clear h0
    have h0 : w9.heap[bt]? = some (.cells #[.int .u8 1, .int .i64 r1, .bool false, .string ⟨#[]⟩] 23 (0, 0)) := HK.out.got (bt, ⟨1, r1, false, ⟨#[]⟩⟩) (by simp)
    obtain ⟨bt0, bt1, bt2, bt3⟩ := row4 h0
    clear h0
    have h0 : w9.heap[bb1]? = some (.cells #[.int .u8 1, .int .i64 n, .bool false, .string ⟨#[]⟩] 23 (0, 0)) := HK.out.got (bb1, ⟨1, n, false, ⟨#[]⟩⟩) (by simp)
    obtain ⟨bb10, bb11, bb12, bb13⟩ := row4 h0
    clear h0
    go_wp2_with fail
    refine (cS _ (HE.out.below HK.out.hb).tabs).mono ?_
    rintro e w10 ⟨rfl, bb⟩
    have HK1 := hid (HK.out.below bb)
    clear bb HK 
    have HK := hid HK1.out
    clear HK1
    clear bb10 bb11 bb12 bb13
    clear bs0 bs1 bs2 bs3 bt0 bt1 bt2 bt3
    go_upto_region 11 with fail
    have HK1 : Hid (KV ((w10.heap.size, ⟨1, m, false, ⟨#[]⟩⟩) :: [(bt, ⟨1, r1, false, ⟨#[]⟩⟩), (bs, ⟨1, r1, false, ⟨#[]⟩⟩), (bb1, ⟨1, n, false, ⟨#[]⟩⟩), (ba, ⟨1, m, false, ⟨#[]⟩⟩)]) w (w10.alloc (.cells #[.int .u8 1, .int .i64 m, .bool false, .string ⟨#[]⟩] 23))) := HK.out.box ⟨1, m, false, ⟨#[]⟩⟩
    generalize World.alloc w10 _ = w11 at *
    obtain ⟨bd, hbd⟩ : ∃ bd, w10.heap.size = bd := ⟨_, rfl⟩
    rw [hbd] at HK1 ⊢
    clear hbd HK
    have HK := hid HK1.out
    clear HK1
    have h0 : w11.heap[bd]? = some (.cells #[.int .u8 1, .int .i64 m, .bool false, .string ⟨#[]⟩] 23 (0, 0)) := HK.out.got (bd, ⟨1, m, false, ⟨#[]⟩⟩) (by simp)
    obtain ⟨bd0, bd1, bd2, bd3⟩ := row4 h0
    clear h0
    have h0 : w11.heap[ba]? = some (.cells #[.int .u8 1, .int .i64 m, .bool false, .string ⟨#[]⟩] 23 (0, 0)) := HK.out.got (ba, ⟨1, m, false, ⟨#[]⟩⟩) (by simp)
    obtain ⟨ba0, ba1, ba2, ba3⟩ := row4 h0
    clear h0
    have h0 : w11.heap[bb1]? = some (.cells #[.int .u8 1, .int .i64 n, .bool false, .string ⟨#[]⟩] 23 (0, 0)) := HK.out.got (bb1, ⟨1, n, false, ⟨#[]⟩⟩) (by simp)
    obtain ⟨bb10, bb11, bb12, bb13⟩ := row4 h0
    clear h0
    go_wp2_with fail
    refine (cP _ (HE.out.below HK.out.hb).tabs).mono ?_
    rintro e w12 ⟨rfl, bb⟩
    have HK1 := hid (HK.out.below bb)
    clear bb HK
    have HK := hid HK1.out
    clear HK1
    clear bd0 bd1 bd2 bd3 ba0 ba1 ba2 ba3 bb10 bb11 bb12 bb13
    go_upto_region 14 with fail
    have HK1 : Hid (KV ((w12.heap.size, ⟨pk, pn, false, ⟨#[]⟩⟩) :: [(bd, ⟨1, m, false, ⟨#[]⟩⟩), (bt, ⟨1, r1, false, ⟨#[]⟩⟩), (bs, ⟨1, r1, false, ⟨#[]⟩⟩), (bb1, ⟨1, n, false, ⟨#[]⟩⟩), (ba, ⟨1, m, false, ⟨#[]⟩⟩)]) w (w12.alloc (.cells #[.int .u8 pk, .int .i64 pn, .bool false, .string ⟨#[]⟩] 23))) := HK.out.box ⟨pk, pn, false, ⟨#[]⟩⟩
    generalize World.alloc w12 _ = w13 at *
    obtain ⟨bp, hbp⟩ : ∃ bp, w12.heap.size = bp := ⟨_, rfl⟩
    rw [hbp] at HK1 ⊢
    clear hbp HK
    have HK := hid HK1.out
    clear HK1
    have h0 : w13.heap[bb1]? = some (.cells #[.int .u8 1, .int .i64 n, .bool false, .string ⟨#[]⟩] 23 (0, 0)) := HK.out.got (bb1, ⟨1, n, false, ⟨#[]⟩⟩) (by simp)
    obtain ⟨bb10, bb11, bb12, bb13⟩ := row4 h0
    clear h0
    have h0 : w13.heap[ba]? = some (.cells #[.int .u8 1, .int .i64 m, .bool false, .string ⟨#[]⟩] 23 (0, 0)) := HK.out.got (ba, ⟨1, m, false, ⟨#[]⟩⟩) (by simp)
    obtain ⟨ba0, ba1, ba2, ba3⟩ := row4 h0
    clear h0
    go_wp2_with fail
    refine (cQ _ (HE.out.below HK.out.hb).tabs).mono ?_
    rintro e w14 ⟨rfl, bb⟩
    have HK1 := hid (HK.out.below bb)
    clear bb HK 
    have HK := hid HK1.out
    clear HK1
    clear bb10 bb11 bb12 bb13 ba0 ba1 ba2 ba3
    go_upto_region 15 with fail
    have HK1 : Hid (KV ((w14.heap.size, ⟨pk, pn, false, ⟨#[]⟩⟩) :: [(bp, ⟨pk, pn, false, ⟨#[]⟩⟩), (bd, ⟨1, m, false, ⟨#[]⟩⟩), (bt, ⟨1, r1, false, ⟨#[]⟩⟩), (bs, ⟨1, r1, false, ⟨#[]⟩⟩), (bb1, ⟨1, n, false, ⟨#[]⟩⟩), (ba, ⟨1, m, false, ⟨#[]⟩⟩)]) w (w14.alloc (.cells #[.int .u8 pk, .int .i64 pn, .bool false, .string ⟨#[]⟩] 23))) := HK.out.box ⟨pk, pn, false, ⟨#[]⟩⟩
    generalize World.alloc w14 _ = w15 at *
    obtain ⟨bq, hbq⟩ : ∃ bq, w14.heap.size = bq := ⟨_, rfl⟩
    rw [hbq] at HK1 ⊢
    clear hbq HK
    have HK := hid HK1.out
    clear HK1
    have h0 : w15.heap[bp]? = some (.cells #[.int .u8 pk, .int .i64 pn, .bool false, .string ⟨#[]⟩] 23 (0, 0)) := HK.out.got (bp, ⟨pk, pn, false, ⟨#[]⟩⟩) (by simp)
    obtain ⟨bp0, bp1, bp2, bp3⟩ := row4 h0
    clear h0
    have h0 : w15.heap[bq]? = some (.cells #[.int .u8 pk, .int .i64 pn, .bool false, .string ⟨#[]⟩] 23 (0, 0)) := HK.out.got (bq, ⟨pk, pn, false, ⟨#[]⟩⟩) (by simp)
    obtain ⟨bq0, bq1, bq2, bq3⟩ := row4 h0
    clear h0
    have h0 : w15.heap[ba]? = some (.cells #[.int .u8 1, .int .i64 m, .bool false, .string ⟨#[]⟩] 23 (0, 0)) := HK.out.got (ba, ⟨1, m, false, ⟨#[]⟩⟩) (by simp)
    obtain ⟨ba0, ba1, ba2, ba3⟩ := row4 h0
    clear h0
    have h0 : w15.heap[bb1]? = some (.cells #[.int .u8 1, .int .i64 n, .bool false, .string ⟨#[]⟩] 23 (0, 0)) := HK.out.got (bb1, ⟨1, n, false, ⟨#[]⟩⟩) (by simp)
    obtain ⟨bb10, bb11, bb12, bb13⟩ := row4 h0
    clear h0
    go_wp2_with fail
    refine (cD _ (HE.out.below HK.out.hb).tabs).mono ?_
    rintro e w16 ⟨rfl, bb⟩
    have HK1 := hid (HK.out.below bb)
    clear bb HK 
    have HK := hid HK1.out
    clear HK1
    clear ba0 ba1 ba2 ba3 bb10 bb11 bb12 bb13
    clear bp0 bp1 bp2 bp3 bq0 bq1 bq2 bq3
    go_upto_region 18 with fail
    have HK1 : Hid (KV ((w16.heap.size, ⟨1, q, false, ⟨#[]⟩⟩) :: [(bq, ⟨pk, pn, false, ⟨#[]⟩⟩), (bp, ⟨pk, pn, false, ⟨#[]⟩⟩), (bd, ⟨1, m, false, ⟨#[]⟩⟩), (bt, ⟨1, r1, false, ⟨#[]⟩⟩), (bs, ⟨1, r1, false, ⟨#[]⟩⟩), (bb1, ⟨1, n, false, ⟨#[]⟩⟩), (ba, ⟨1, m, false, ⟨#[]⟩⟩)]) w (w16.alloc (.cells #[.int .u8 1, .int .i64 q, .bool false, .string ⟨#[]⟩] 23))) := HK.out.box ⟨1, q, false, ⟨#[]⟩⟩
    generalize World.alloc w16 _ = w17 at *
    obtain ⟨bd2, hbd2⟩ : ∃ bd2, w16.heap.size = bd2 := ⟨_, rfl⟩
    rw [hbd2] at HK1 ⊢
    clear hbd2 HK
    have HK := hid HK1.out
    clear HK1
    have h0 : w17.heap[ba]? = some (.cells #[.int .u8 1, .int .i64 m, .bool false, .string ⟨#[]⟩] 23 (0, 0)) := HK.out.got (ba, ⟨1, m, false, ⟨#[]⟩⟩) (by simp)
    obtain ⟨ba0, ba1, ba2, ba3⟩ := row4 h0
    clear h0
    have h0 : w17.heap[bb1]? = some (.cells #[.int .u8 1, .int .i64 n, .bool false, .string ⟨#[]⟩] 23 (0, 0)) := HK.out.got (bb1, ⟨1, n, false, ⟨#[]⟩⟩) (by simp)
    obtain ⟨bb10, bb11, bb12, bb13⟩ := row4 h0
    clear h0
    go_wp2_with fail
    refine (cM _ (HE.out.below HK.out.hb).tabs).mono ?_
    rintro e w18 ⟨rfl, bb⟩
    have HK1 := hid (HK.out.below bb)
    clear bb HK 
    have HK := hid HK1.out
    clear HK1
    clear ba0 ba1 ba2 ba3 bb10 bb11 bb12 bb13
    go_upto_region 19 with fail
    have HK1 : Hid (KV ((w18.heap.size, ⟨1, r, false, ⟨#[]⟩⟩) :: [(bd2, ⟨1, q, false, ⟨#[]⟩⟩), (bq, ⟨pk, pn, false, ⟨#[]⟩⟩), (bp, ⟨pk, pn, false, ⟨#[]⟩⟩), (bd, ⟨1, m, false, ⟨#[]⟩⟩), (bt, ⟨1, r1, false, ⟨#[]⟩⟩), (bs, ⟨1, r1, false, ⟨#[]⟩⟩), (bb1, ⟨1, n, false, ⟨#[]⟩⟩), (ba, ⟨1, m, false, ⟨#[]⟩⟩)]) w (w18.alloc (.cells #[.int .u8 1, .int .i64 r, .bool false, .string ⟨#[]⟩] 23))) := HK.out.box ⟨1, r, false, ⟨#[]⟩⟩
    generalize World.alloc w18 _ = w19 at *
    obtain ⟨br, hbr⟩ : ∃ br, w18.heap.size = br := ⟨_, rfl⟩
    rw [hbr] at HK1 ⊢
    clear hbr HK
    have HK := hid HK1.out
    clear HK1
    have h0 : w19.heap[br]? = some (.cells #[.int .u8 1, .int .i64 r, .bool false, .string ⟨#[]⟩] 23 (0, 0)) := HK.out.got (br, ⟨1, r, false, ⟨#[]⟩⟩) (by simp)
    obtain ⟨br0, br1, br2, br3⟩ := row4 h0
    clear h0
    go_wp2_with fail
    refine (cF _).mono ?_
    rintro e ww ⟨rfl, rfl⟩
    go_wp2_with fail
    refine (cG _).mono ?_
    rintro e ww2 ⟨rfl, rfl⟩
    obtain ⟨wz, hwz⟩ : ∃ wz : World, wz = wz := ⟨w, rfl⟩
    clear hwz wz
    clear br0 br1 br2 br3
    have HK1 := hid HK.out
    clear HK
    have HK := hid HK1.out
    clear HK1
    have h0 : ww2.heap[bd2]? = some (.cells #[.int .u8 1, .int .i64 q, .bool false, .string ⟨#[]⟩] 23 (0, 0)) := HK.out.got (bd2, ⟨1, q, false, ⟨#[]⟩⟩) (by simp)
    obtain ⟨bd20, bd21, bd22, bd23⟩ := row4 h0
    clear h0
    have h0 : ww2.heap[bb1]? = some (.cells #[.int .u8 1, .int .i64 n, .bool false, .string ⟨#[]⟩] 23 (0, 0)) := HK.out.got (bb1, ⟨1, n, false, ⟨#[]⟩⟩) (by simp)
    obtain ⟨bb10, bb11, bb12, bb13⟩ := row4 h0
    clear h0
    go_wp2_with fail
    refine (cX _ (HE.out.below HK.out.hb).tabs).mono ?_
    rintro e v1 ⟨rfl, bb⟩
    have HK1 := hid (HK.out.below bb)
    clear bb HK 
    have HK := hid HK1.out
    clear HK1
    clear bd20 bd21 bd22 bd23 bb10 bb11 bb12 bb13
    go_upto_region 26 with fail
    have HK1 : Hid (KV ((v1.heap.size, ⟨1, x, false, ⟨#[]⟩⟩) :: [(br, ⟨1, r, false, ⟨#[]⟩⟩), (bd2, ⟨1, q, false, ⟨#[]⟩⟩), (bq, ⟨pk, pn, false, ⟨#[]⟩⟩), (bp, ⟨pk, pn, false, ⟨#[]⟩⟩), (bd, ⟨1, m, false, ⟨#[]⟩⟩), (bt, ⟨1, r1, false, ⟨#[]⟩⟩), (bs, ⟨1, r1, false, ⟨#[]⟩⟩), (bb1, ⟨1, n, false, ⟨#[]⟩⟩), (ba, ⟨1, m, false, ⟨#[]⟩⟩)]) w (v1.alloc (.cells #[.int .u8 1, .int .i64 x, .bool false, .string ⟨#[]⟩] 23))) := HK.out.box ⟨1, x, false, ⟨#[]⟩⟩
    generalize World.alloc v1 _ = v2 at *
    obtain ⟨bx, hbx⟩ : ∃ bx, v1.heap.size = bx := ⟨_, rfl⟩
    rw [hbx] at HK1 ⊢
    clear hbx HK
    have HK := hid HK1.out
    clear HK1
    have h0 : v2.heap[bx]? = some (.cells #[.int .u8 1, .int .i64 x, .bool false, .string ⟨#[]⟩] 23 (0, 0)) := HK.out.got (bx, ⟨1, x, false, ⟨#[]⟩⟩) (by simp)
    obtain ⟨bx0, bx1, bx2, bx3⟩ := row4 h0
    clear h0
    have h0 : v2.heap[br]? = some (.cells #[.int .u8 1, .int .i64 r, .bool false, .string ⟨#[]⟩] 23 (0, 0)) := HK.out.got (br, ⟨1, r, false, ⟨#[]⟩⟩) (by simp)
    obtain ⟨br0, br1, br2, br3⟩ := row4 h0
    clear h0
    go_wp2_with fail
    refine (cY _ (HE.out.below HK.out.hb).tabs).mono ?_
    rintro e v3 ⟨rfl, bb⟩
    have HK1 := hid (HK.out.below bb)
    clear bb HK 
    have HK := hid HK1.out
    clear HK1
    clear bx0 bx1 bx2 bx3 br0 br1 br2 br3
    go_upto_region 27 with fail
    have HK1 : Hid (KV ((v3.heap.size, ⟨1, m, false, ⟨#[]⟩⟩) :: [(bx, ⟨1, x, false, ⟨#[]⟩⟩), (br, ⟨1, r, false, ⟨#[]⟩⟩), (bd2, ⟨1, q, false, ⟨#[]⟩⟩), (bq, ⟨pk, pn, false, ⟨#[]⟩⟩), (bp, ⟨pk, pn, false, ⟨#[]⟩⟩), (bd, ⟨1, m, false, ⟨#[]⟩⟩), (bt, ⟨1, r1, false, ⟨#[]⟩⟩), (bs, ⟨1, r1, false, ⟨#[]⟩⟩), (bb1, ⟨1, n, false, ⟨#[]⟩⟩), (ba, ⟨1, m, false, ⟨#[]⟩⟩)]) w (v3.alloc (.cells #[.int .u8 1, .int .i64 m, .bool false, .string ⟨#[]⟩] 23))) := HK.out.box ⟨1, m, false, ⟨#[]⟩⟩
    generalize World.alloc v3 _ = v4 at *
    obtain ⟨by1, hby1⟩ : ∃ by1, v3.heap.size = by1 := ⟨_, rfl⟩
    rw [hby1] at HK1 ⊢
    clear hby1 HK
    have HK := hid HK1.out
    clear HK1
    have h0 : v4.heap[by1]? = some (.cells #[.int .u8 1, .int .i64 m, .bool false, .string ⟨#[]⟩] 23 (0, 0)) := HK.out.got (by1, ⟨1, m, false, ⟨#[]⟩⟩) (by simp)
    obtain ⟨by10, by11, by12, by13⟩ := row4 h0
    clear h0
    have h0 : v4.heap[ba]? = some (.cells #[.int .u8 1, .int .i64 m, .bool false, .string ⟨#[]⟩] 23 (0, 0)) := HK.out.got (ba, ⟨1, m, false, ⟨#[]⟩⟩) (by simp)
    obtain ⟨ba0, ba1, ba2, ba3⟩ := row4 h0
    clear h0
    go_wp2_with fail
    go_ret
    exact ⟨rfl, HK.out.hb⟩

set_option maxRecDepth 100000 in
set_option maxHeartbeats 8000000 in
theorem rings_n_zero (m n : Int) (w : World) (hE : VEnv w) (hm : In m) (hn : In n) (hs : ¬ In (m + n)) (h0 : n = 0) :
    Calls Tryd.prog 9 #[.int .i64 m, .int .i64 n] w fun e w' => e = .returned (.bool true) ∧ Below w.heap.size w w' := by
  have cA := rk_add m n hm hn
  rw [ranged_no hs] at cA
  have cB := rk_add n m hn hm
  rw [show n + m = m + n by omega, ranged_no hs] at cB
  replace cA : Rk 12 m n 0 0 91 := cA
  replace cB : Rk 12 n m 0 0 91 := cB
  have cP := rk_mul m n hm hn
  have cQ := rk_mul n m hn hm
  rw [Int.mul_comm n m] at cQ
  obtain ⟨⟨pk, pn, pe⟩, hp⟩ : ∃ R, ranged (m * n) = R := ⟨_, rfl⟩
  rw [hp] at cP cQ
  simp only at cP cQ
  clear hp
  have cD := rk_div m n hm
  have cM := rk_mod m n hn
  unfold divR at cD
  unfold modR at cM
  rw [if_pos h0] at cD cM
  replace cD : Rk 17 m n 0 0 91 := cD
  replace cM : Rk 18 m n 0 0 91 := cM
  have z0 : (n == 0) = true := beq_iff_eq.2 h0
  have n1 : ∀ W : World, (binOp .neq 23 (.agg #[.int .u8 0, .int .i64 0, .bool false, .string ⟨#[]⟩]) (.agg #[.int .u8 0, .int .i64 0, .bool false, .string ⟨#[]⟩])).run Tryd.prog W = .ok (.bool false) W := fun W => neq_no 0 (0) false ⟨#[]⟩ W
  have n2 : ∀ W : World, (binOp .neq 23 (.agg #[.int .u8 pk, .int .i64 pn, .bool false, .string ⟨#[]⟩]) (.agg #[.int .u8 pk, .int .i64 pn, .bool false, .string ⟨#[]⟩])).run Tryd.prog W = .ok (.bool false) W := fun W => neq_no pk (pn) false ⟨#[]⟩ W
  have HE := hid hE
  clear hE hm hn hs h0
  have HK := hid (KV.start w)
  go_enter Tryd.func9, Tryd.ntmps9
  go_wp2_with fail
  refine (works_any _ (HE.out.below HK.out.hb)).mono ?_
  rintro e w1 ⟨rfl, bb⟩
  have HK1 := hid (HK.out.below bb)
  clear bb HK 
  have HK := hid HK1.out
  clear HK1
  go_wp2_with fail
  refine (vnumber_any m _).mono ?_
  rintro e w2 ⟨rfl, bb⟩
  have HK1 := hid (HK.out.below bb)
  clear bb HK 
  have HK := hid HK1.out
  clear HK1
  go_upto_region 4 with fail
  have HK1 : Hid (KV ((w2.heap.size, ⟨1, m, false, ⟨#[]⟩⟩) :: []) w (w2.alloc (.cells #[.int .u8 1, .int .i64 m, .bool false, .string ⟨#[]⟩] 23))) := HK.out.box ⟨1, m, false, ⟨#[]⟩⟩
  generalize World.alloc w2 _ = w3 at *
  obtain ⟨ba, hba⟩ : ∃ ba, w2.heap.size = ba := ⟨_, rfl⟩
  rw [hba] at HK1 ⊢
  clear hba HK
  have HK := hid HK1.out
  clear HK1
  go_wp2_with fail
  refine (vnumber_any n _).mono ?_
  rintro e w4 ⟨rfl, bb⟩
  have HK1 := hid (HK.out.below bb)
  clear bb HK 
  have HK := hid HK1.out
  clear HK1
  go_upto_region 5 with fail
  have HK1 : Hid (KV ((w4.heap.size, ⟨1, n, false, ⟨#[]⟩⟩) :: [(ba, ⟨1, m, false, ⟨#[]⟩⟩)]) w (w4.alloc (.cells #[.int .u8 1, .int .i64 n, .bool false, .string ⟨#[]⟩] 23))) := HK.out.box ⟨1, n, false, ⟨#[]⟩⟩
  generalize World.alloc w4 _ = w5 at *
  obtain ⟨bb1, hbb1⟩ : ∃ bb1, w4.heap.size = bb1 := ⟨_, rfl⟩
  rw [hbb1] at HK1 ⊢
  clear hbb1 HK
  have HK := hid HK1.out
  clear HK1
  have h0 : w5.heap[ba]? = some (.cells #[.int .u8 1, .int .i64 m, .bool false, .string ⟨#[]⟩] 23 (0, 0)) := HK.out.got (ba, ⟨1, m, false, ⟨#[]⟩⟩) (by simp)
  obtain ⟨ba0, ba1, ba2, ba3⟩ := row4 h0
  clear h0
  have h0 : w5.heap[bb1]? = some (.cells #[.int .u8 1, .int .i64 n, .bool false, .string ⟨#[]⟩] 23 (0, 0)) := HK.out.got (bb1, ⟨1, n, false, ⟨#[]⟩⟩) (by simp)
  obtain ⟨bb10, bb11, bb12, bb13⟩ := row4 h0
  clear h0
  go_wp2_with fail
  refine (cA _ (HE.out.below HK.out.hb).tabs).mono ?_
  rintro e w6 ⟨rfl, bb⟩
  have HK1 := hid (HK.out.below bb)
  clear bb HK 
  have HK := hid HK1.out
  clear HK1
  clear ba0 ba1 ba2 ba3 bb10 bb11 bb12 bb13
  go_upto_region 6 with fail
  have HK1 : Hid (KV ((w6.heap.size, ⟨0, 0, false, ⟨#[]⟩⟩) :: [(bb1, ⟨1, n, false, ⟨#[]⟩⟩), (ba, ⟨1, m, false, ⟨#[]⟩⟩)]) w (w6.alloc (.cells #[.int .u8 0, .int .i64 0, .bool false, .string ⟨#[]⟩] 23))) := HK.out.box ⟨0, 0, false, ⟨#[]⟩⟩
  generalize World.alloc w6 _ = w7 at *
  obtain ⟨bs, hbs⟩ : ∃ bs, w6.heap.size = bs := ⟨_, rfl⟩
  rw [hbs] at HK1 ⊢
  clear hbs HK
  have HK := hid HK1.out
  clear HK1
  have h0 : w7.heap[bb1]? = some (.cells #[.int .u8 1, .int .i64 n, .bool false, .string ⟨#[]⟩] 23 (0, 0)) := HK.out.got (bb1, ⟨1, n, false, ⟨#[]⟩⟩) (by simp)
  obtain ⟨bb10, bb11, bb12, bb13⟩ := row4 h0
  clear h0
  have h0 : w7.heap[ba]? = some (.cells #[.int .u8 1, .int .i64 m, .bool false, .string ⟨#[]⟩] 23 (0, 0)) := HK.out.got (ba, ⟨1, m, false, ⟨#[]⟩⟩) (by simp)
  obtain ⟨ba0, ba1, ba2, ba3⟩ := row4 h0
  clear h0
  go_wp2_with fail
  refine (cB _ (HE.out.below HK.out.hb).tabs).mono ?_
  rintro e w8 ⟨rfl, bb⟩
  have HK1 := hid (HK.out.below bb)
  clear bb HK 
  have HK := hid HK1.out
  clear HK1
  clear bb10 bb11 bb12 bb13 ba0 ba1 ba2 ba3
  go_upto_region 7 with fail
  have HK1 : Hid (KV ((w8.heap.size, ⟨0, 0, false, ⟨#[]⟩⟩) :: [(bs, ⟨0, 0, false, ⟨#[]⟩⟩), (bb1, ⟨1, n, false, ⟨#[]⟩⟩), (ba, ⟨1, m, false, ⟨#[]⟩⟩)]) w (w8.alloc (.cells #[.int .u8 0, .int .i64 0, .bool false, .string ⟨#[]⟩] 23))) := HK.out.box ⟨0, 0, false, ⟨#[]⟩⟩
  generalize World.alloc w8 _ = w9 at *
  obtain ⟨bt, hbt⟩ : ∃ bt, w8.heap.size = bt := ⟨_, rfl⟩
  rw [hbt] at HK1 ⊢
  clear hbt HK
  have HK := hid HK1.out
  clear HK1
  have h0 : w9.heap[bs]? = some (.cells #[.int .u8 0, .int .i64 0, .bool false, .string ⟨#[]⟩] 23 (0, 0)) := HK.out.got (bs, ⟨0, 0, false, ⟨#[]⟩⟩) (by simp)
  obtain ⟨bs0, bs1, bs2, bs3⟩ := row4 h0
  clear h0
  have h0 : w9.heap[bt]? = some (.cells #[.int .u8 0, .int .i64 0, .bool false, .string ⟨#[]⟩] 23 (0, 0)) := HK.out.got (bt, ⟨0, 0, false, ⟨#[]⟩⟩) (by simp)
  obtain ⟨bt0, bt1, bt2, bt3⟩ := row4 h0
  clear h0
  have h0 : w9.heap[ba]? = some (.cells #[.int .u8 1, .int .i64 m, .bool false, .string ⟨#[]⟩] 23 (0, 0)) := HK.out.got (ba, ⟨1, m, false, ⟨#[]⟩⟩) (by simp)
  obtain ⟨ba0, ba1, ba2, ba3⟩ := row4 h0
  clear h0
  have h0 : w9.heap[bb1]? = some (.cells #[.int .u8 1, .int .i64 n, .bool false, .string ⟨#[]⟩] 23 (0, 0)) := HK.out.got (bb1, ⟨1, n, false, ⟨#[]⟩⟩) (by simp)
  obtain ⟨bb10, bb11, bb12, bb13⟩ := row4 h0
  clear h0
  go_wp2_with fail
  refine (cP _ (HE.out.below HK.out.hb).tabs).mono ?_
  rintro e w10 ⟨rfl, bb⟩
  have HK1 := hid (HK.out.below bb)
  clear bb HK 
  have HK := hid HK1.out
  clear HK1
  clear ba0 ba1 ba2 ba3 bb10 bb11 bb12 bb13
  clear bs0 bs1 bs2 bs3 bt0 bt1 bt2 bt3
  go_upto_region 14 with fail
  have HK1 : Hid (KV ((w10.heap.size, ⟨pk, pn, false, ⟨#[]⟩⟩) :: [(bt, ⟨0, 0, false, ⟨#[]⟩⟩), (bs, ⟨0, 0, false, ⟨#[]⟩⟩), (bb1, ⟨1, n, false, ⟨#[]⟩⟩), (ba, ⟨1, m, false, ⟨#[]⟩⟩)]) w (w10.alloc (.cells #[.int .u8 pk, .int .i64 pn, .bool false, .string ⟨#[]⟩] 23))) := HK.out.box ⟨pk, pn, false, ⟨#[]⟩⟩
  generalize World.alloc w10 _ = w11 at *
  obtain ⟨bp, hbp⟩ : ∃ bp, w10.heap.size = bp := ⟨_, rfl⟩
  rw [hbp] at HK1 ⊢
  clear hbp HK
  have HK := hid HK1.out
  clear HK1
  have h0 : w11.heap[bb1]? = some (.cells #[.int .u8 1, .int .i64 n, .bool false, .string ⟨#[]⟩] 23 (0, 0)) := HK.out.got (bb1, ⟨1, n, false, ⟨#[]⟩⟩) (by simp)
  obtain ⟨bb10, bb11, bb12, bb13⟩ := row4 h0
  clear h0
  have h0 : w11.heap[ba]? = some (.cells #[.int .u8 1, .int .i64 m, .bool false, .string ⟨#[]⟩] 23 (0, 0)) := HK.out.got (ba, ⟨1, m, false, ⟨#[]⟩⟩) (by simp)
  obtain ⟨ba0, ba1, ba2, ba3⟩ := row4 h0
  clear h0
  go_wp2_with fail
  refine (cQ _ (HE.out.below HK.out.hb).tabs).mono ?_
  rintro e w12 ⟨rfl, bb⟩
  have HK1 := hid (HK.out.below bb)
  clear bb HK 
  have HK := hid HK1.out
  clear HK1
  clear bb10 bb11 bb12 bb13 ba0 ba1 ba2 ba3
  go_upto_region 15 with fail
  have HK1 : Hid (KV ((w12.heap.size, ⟨pk, pn, false, ⟨#[]⟩⟩) :: [(bp, ⟨pk, pn, false, ⟨#[]⟩⟩), (bt, ⟨0, 0, false, ⟨#[]⟩⟩), (bs, ⟨0, 0, false, ⟨#[]⟩⟩), (bb1, ⟨1, n, false, ⟨#[]⟩⟩), (ba, ⟨1, m, false, ⟨#[]⟩⟩)]) w (w12.alloc (.cells #[.int .u8 pk, .int .i64 pn, .bool false, .string ⟨#[]⟩] 23))) := HK.out.box ⟨pk, pn, false, ⟨#[]⟩⟩
  generalize World.alloc w12 _ = w13 at *
  obtain ⟨bq, hbq⟩ : ∃ bq, w12.heap.size = bq := ⟨_, rfl⟩
  rw [hbq] at HK1 ⊢
  clear hbq HK
  have HK := hid HK1.out
  clear HK1
  have h0 : w13.heap[bp]? = some (.cells #[.int .u8 pk, .int .i64 pn, .bool false, .string ⟨#[]⟩] 23 (0, 0)) := HK.out.got (bp, ⟨pk, pn, false, ⟨#[]⟩⟩) (by simp)
  obtain ⟨bp0, bp1, bp2, bp3⟩ := row4 h0
  clear h0
  have h0 : w13.heap[bq]? = some (.cells #[.int .u8 pk, .int .i64 pn, .bool false, .string ⟨#[]⟩] 23 (0, 0)) := HK.out.got (bq, ⟨pk, pn, false, ⟨#[]⟩⟩) (by simp)
  obtain ⟨bq0, bq1, bq2, bq3⟩ := row4 h0
  clear h0
  have h0 : w13.heap[ba]? = some (.cells #[.int .u8 1, .int .i64 m, .bool false, .string ⟨#[]⟩] 23 (0, 0)) := HK.out.got (ba, ⟨1, m, false, ⟨#[]⟩⟩) (by simp)
  obtain ⟨ba0, ba1, ba2, ba3⟩ := row4 h0
  clear h0
  have h0 : w13.heap[bb1]? = some (.cells #[.int .u8 1, .int .i64 n, .bool false, .string ⟨#[]⟩] 23 (0, 0)) := HK.out.got (bb1, ⟨1, n, false, ⟨#[]⟩⟩) (by simp)
  obtain ⟨bb10, bb11, bb12, bb13⟩ := row4 h0
  clear h0
  go_wp2_with fail
  refine (cD _ (HE.out.below HK.out.hb).tabs).mono ?_
  rintro e w14 ⟨rfl, bb⟩
  have HK1 := hid (HK.out.below bb)
  clear bb HK 
  have HK := hid HK1.out
  clear HK1
  clear ba0 ba1 ba2 ba3 bb10 bb11 bb12 bb13
  clear bp0 bp1 bp2 bp3 bq0 bq1 bq2 bq3
  go_upto_region 18 with fail
  have HK1 : Hid (KV ((w14.heap.size, ⟨0, 0, false, ⟨#[]⟩⟩) :: [(bq, ⟨pk, pn, false, ⟨#[]⟩⟩), (bp, ⟨pk, pn, false, ⟨#[]⟩⟩), (bt, ⟨0, 0, false, ⟨#[]⟩⟩), (bs, ⟨0, 0, false, ⟨#[]⟩⟩), (bb1, ⟨1, n, false, ⟨#[]⟩⟩), (ba, ⟨1, m, false, ⟨#[]⟩⟩)]) w (w14.alloc (.cells #[.int .u8 0, .int .i64 0, .bool false, .string ⟨#[]⟩] 23))) := HK.out.box ⟨0, 0, false, ⟨#[]⟩⟩
  generalize World.alloc w14 _ = w15 at *
  obtain ⟨bd2, hbd2⟩ : ∃ bd2, w14.heap.size = bd2 := ⟨_, rfl⟩
  rw [hbd2] at HK1 ⊢
  clear hbd2 HK
  have HK := hid HK1.out
  clear HK1
  have h0 : w15.heap[ba]? = some (.cells #[.int .u8 1, .int .i64 m, .bool false, .string ⟨#[]⟩] 23 (0, 0)) := HK.out.got (ba, ⟨1, m, false, ⟨#[]⟩⟩) (by simp)
  obtain ⟨ba0, ba1, ba2, ba3⟩ := row4 h0
  clear h0
  have h0 : w15.heap[bb1]? = some (.cells #[.int .u8 1, .int .i64 n, .bool false, .string ⟨#[]⟩] 23 (0, 0)) := HK.out.got (bb1, ⟨1, n, false, ⟨#[]⟩⟩) (by simp)
  obtain ⟨bb10, bb11, bb12, bb13⟩ := row4 h0
  clear h0
  go_wp2_with fail
  refine (cM _ (HE.out.below HK.out.hb).tabs).mono ?_
  rintro e w16 ⟨rfl, bb⟩
  have HK1 := hid (HK.out.below bb)
  clear bb HK 
  have HK := hid HK1.out
  clear HK1
  clear ba0 ba1 ba2 ba3 bb10 bb11 bb12 bb13
  go_upto_region 19 with fail
  have HK1 : Hid (KV ((w16.heap.size, ⟨0, 0, false, ⟨#[]⟩⟩) :: [(bd2, ⟨0, 0, false, ⟨#[]⟩⟩), (bq, ⟨pk, pn, false, ⟨#[]⟩⟩), (bp, ⟨pk, pn, false, ⟨#[]⟩⟩), (bt, ⟨0, 0, false, ⟨#[]⟩⟩), (bs, ⟨0, 0, false, ⟨#[]⟩⟩), (bb1, ⟨1, n, false, ⟨#[]⟩⟩), (ba, ⟨1, m, false, ⟨#[]⟩⟩)]) w (w16.alloc (.cells #[.int .u8 0, .int .i64 0, .bool false, .string ⟨#[]⟩] 23))) := HK.out.box ⟨0, 0, false, ⟨#[]⟩⟩
  generalize World.alloc w16 _ = w17 at *
  obtain ⟨br, hbr⟩ : ∃ br, w16.heap.size = br := ⟨_, rfl⟩
  rw [hbr] at HK1 ⊢
  clear hbr HK
  have HK := hid HK1.out
  clear HK1
  go_wp2_with fail
  go_ret
  exact ⟨rfl, HK.out.hb⟩

set_option maxRecDepth 100000 in
set_option maxHeartbeats 8000000 in
theorem rings_n_over (m n : Int) (w : World) (hE : VEnv w) (hm : In m) (hn : In n) (hs : ¬ In (m + n)) (h1 : m = -9223372036854775808) (h2 : n = -1) :
    Calls Tryd.prog 9 #[.int .i64 m, .int .i64 n] w fun e w' => e = .returned (.bool true) ∧ Below w.heap.size w w' := by
  have cA := rk_add m n hm hn
  rw [ranged_no hs] at cA
  have cB := rk_add n m hn hm
  rw [show n + m = m + n by omega, ranged_no hs] at cB
  replace cA : Rk 12 m n 0 0 91 := cA
  replace cB : Rk 12 n m 0 0 91 := cB
  have cP := rk_mul m n hm hn
  have cQ := rk_mul n m hn hm
  rw [Int.mul_comm n m] at cQ
  obtain ⟨⟨pk, pn, pe⟩, hp⟩ : ∃ R, ranged (m * n) = R := ⟨_, rfl⟩
  rw [hp] at cP cQ
  simp only at cP cQ
  clear hp
  have cD := rk_div m n hm
  have cM := rk_mod m n hn
  have eD : divR m n = over := by
    subst h1 h2; unfold divR; rw [if_neg (by decide)]; exact ranged_no (by intro hh; exact absurd hh.2 (by decide))
  have eM : modR m n = num 0 := by subst h2; exact modR_minus m
  rw [eD] at cD
  rw [eM] at cM
  replace cD : Rk 17 m n 0 0 91 := cD
  replace cM : Rk 18 m n 1 0 0 := cM
  have z0 : (n == 0) = false := beq_eq_false_iff_ne.2 (by omega)
  have z1 : (m == -9223372036854775808) = true := beq_iff_eq.2 h1
  have z2 : (n == -1) = true := beq_iff_eq.2 h2
  have cF := fun X => far_any 0 X (by decide) (by decide)
  have cG : ∀ X, Calls Tryd.prog 43 #[.int .i64 n] X fun e w' => e = .returned (.int .u64 1) ∧ w' = X := fun X => by
    rw [h2]; exact far_any (-1) X (by decide) (by decide)
  replace cF : ∀ X, Calls Tryd.prog 43 #[.int .i64 0] X fun e w' => e = .returned (.int .u64 0) ∧ w' = X := cF
  clear eD eM
  have n1 : ∀ W : World, (binOp .neq 23 (.agg #[.int .u8 0, .int .i64 0, .bool false, .string ⟨#[]⟩]) (.agg #[.int .u8 0, .int .i64 0, .bool false, .string ⟨#[]⟩])).run Tryd.prog W = .ok (.bool false) W := fun W => neq_no 0 (0) false ⟨#[]⟩ W
  have n2 : ∀ W : World, (binOp .neq 23 (.agg #[.int .u8 pk, .int .i64 pn, .bool false, .string ⟨#[]⟩]) (.agg #[.int .u8 pk, .int .i64 pn, .bool false, .string ⟨#[]⟩])).run Tryd.prog W = .ok (.bool false) W := fun W => neq_no pk (pn) false ⟨#[]⟩ W
  have HE := hid hE
  clear hE hm hn hs h1 h2
  have HK := hid (KV.start w)
  go_enter Tryd.func9, Tryd.ntmps9
  go_wp2_with fail
  refine (works_any _ (HE.out.below HK.out.hb)).mono ?_
  rintro e w1 ⟨rfl, bb⟩
  have HK1 := hid (HK.out.below bb)
  clear bb HK 
  have HK := hid HK1.out
  clear HK1
  go_wp2_with fail
  refine (vnumber_any m _).mono ?_
  rintro e w2 ⟨rfl, bb⟩
  have HK1 := hid (HK.out.below bb)
  clear bb HK 
  have HK := hid HK1.out
  clear HK1
  go_upto_region 4 with fail
  have HK1 : Hid (KV ((w2.heap.size, ⟨1, m, false, ⟨#[]⟩⟩) :: []) w (w2.alloc (.cells #[.int .u8 1, .int .i64 m, .bool false, .string ⟨#[]⟩] 23))) := HK.out.box ⟨1, m, false, ⟨#[]⟩⟩
  generalize World.alloc w2 _ = w3 at *
  obtain ⟨ba, hba⟩ : ∃ ba, w2.heap.size = ba := ⟨_, rfl⟩
  rw [hba] at HK1 ⊢
  clear hba HK
  have HK := hid HK1.out
  clear HK1
  go_wp2_with fail
  refine (vnumber_any n _).mono ?_
  rintro e w4 ⟨rfl, bb⟩
  have HK1 := hid (HK.out.below bb)
  clear bb HK 
  have HK := hid HK1.out
  clear HK1
  go_upto_region 5 with fail
  have HK1 : Hid (KV ((w4.heap.size, ⟨1, n, false, ⟨#[]⟩⟩) :: [(ba, ⟨1, m, false, ⟨#[]⟩⟩)]) w (w4.alloc (.cells #[.int .u8 1, .int .i64 n, .bool false, .string ⟨#[]⟩] 23))) := HK.out.box ⟨1, n, false, ⟨#[]⟩⟩
  generalize World.alloc w4 _ = w5 at *
  obtain ⟨bb1, hbb1⟩ : ∃ bb1, w4.heap.size = bb1 := ⟨_, rfl⟩
  rw [hbb1] at HK1 ⊢
  clear hbb1 HK
  have HK := hid HK1.out
  clear HK1
  have h0 : w5.heap[ba]? = some (.cells #[.int .u8 1, .int .i64 m, .bool false, .string ⟨#[]⟩] 23 (0, 0)) := HK.out.got (ba, ⟨1, m, false, ⟨#[]⟩⟩) (by simp)
  obtain ⟨ba0, ba1, ba2, ba3⟩ := row4 h0
  clear h0
  have h0 : w5.heap[bb1]? = some (.cells #[.int .u8 1, .int .i64 n, .bool false, .string ⟨#[]⟩] 23 (0, 0)) := HK.out.got (bb1, ⟨1, n, false, ⟨#[]⟩⟩) (by simp)
  obtain ⟨bb10, bb11, bb12, bb13⟩ := row4 h0
  clear h0
  go_wp2_with fail
  refine (cA _ (HE.out.below HK.out.hb).tabs).mono ?_
  rintro e w6 ⟨rfl, bb⟩
  have HK1 := hid (HK.out.below bb)
  clear bb HK 
  have HK := hid HK1.out
  clear HK1
  clear ba0 ba1 ba2 ba3 bb10 bb11 bb12 bb13
  go_upto_region 6 with fail
  have HK1 : Hid (KV ((w6.heap.size, ⟨0, 0, false, ⟨#[]⟩⟩) :: [(bb1, ⟨1, n, false, ⟨#[]⟩⟩), (ba, ⟨1, m, false, ⟨#[]⟩⟩)]) w (w6.alloc (.cells #[.int .u8 0, .int .i64 0, .bool false, .string ⟨#[]⟩] 23))) := HK.out.box ⟨0, 0, false, ⟨#[]⟩⟩
  generalize World.alloc w6 _ = w7 at *
  obtain ⟨bs, hbs⟩ : ∃ bs, w6.heap.size = bs := ⟨_, rfl⟩
  rw [hbs] at HK1 ⊢
  clear hbs HK
  have HK := hid HK1.out
  clear HK1
  have h0 : w7.heap[bb1]? = some (.cells #[.int .u8 1, .int .i64 n, .bool false, .string ⟨#[]⟩] 23 (0, 0)) := HK.out.got (bb1, ⟨1, n, false, ⟨#[]⟩⟩) (by simp)
  obtain ⟨bb10, bb11, bb12, bb13⟩ := row4 h0
  clear h0
  have h0 : w7.heap[ba]? = some (.cells #[.int .u8 1, .int .i64 m, .bool false, .string ⟨#[]⟩] 23 (0, 0)) := HK.out.got (ba, ⟨1, m, false, ⟨#[]⟩⟩) (by simp)
  obtain ⟨ba0, ba1, ba2, ba3⟩ := row4 h0
  clear h0
  go_wp2_with fail
  refine (cB _ (HE.out.below HK.out.hb).tabs).mono ?_
  rintro e w8 ⟨rfl, bb⟩
  have HK1 := hid (HK.out.below bb)
  clear bb HK 
  have HK := hid HK1.out
  clear HK1
  clear bb10 bb11 bb12 bb13 ba0 ba1 ba2 ba3
  go_upto_region 7 with fail
  have HK1 : Hid (KV ((w8.heap.size, ⟨0, 0, false, ⟨#[]⟩⟩) :: [(bs, ⟨0, 0, false, ⟨#[]⟩⟩), (bb1, ⟨1, n, false, ⟨#[]⟩⟩), (ba, ⟨1, m, false, ⟨#[]⟩⟩)]) w (w8.alloc (.cells #[.int .u8 0, .int .i64 0, .bool false, .string ⟨#[]⟩] 23))) := HK.out.box ⟨0, 0, false, ⟨#[]⟩⟩
  generalize World.alloc w8 _ = w9 at *
  obtain ⟨bt, hbt⟩ : ∃ bt, w8.heap.size = bt := ⟨_, rfl⟩
  rw [hbt] at HK1 ⊢
  clear hbt HK
  have HK := hid HK1.out
  clear HK1
  have h0 : w9.heap[bs]? = some (.cells #[.int .u8 0, .int .i64 0, .bool false, .string ⟨#[]⟩] 23 (0, 0)) := HK.out.got (bs, ⟨0, 0, false, ⟨#[]⟩⟩) (by simp)
  obtain ⟨bs0, bs1, bs2, bs3⟩ := row4 h0
  clear h0
  have h0 : w9.heap[bt]? = some (.cells #[.int .u8 0, .int .i64 0, .bool false, .string ⟨#[]⟩] 23 (0, 0)) := HK.out.got (bt, ⟨0, 0, false, ⟨#[]⟩⟩) (by simp)
  obtain ⟨bt0, bt1, bt2, bt3⟩ := row4 h0
  clear h0
  have h0 : w9.heap[ba]? = some (.cells #[.int .u8 1, .int .i64 m, .bool false, .string ⟨#[]⟩] 23 (0, 0)) := HK.out.got (ba, ⟨1, m, false, ⟨#[]⟩⟩) (by simp)
  obtain ⟨ba0, ba1, ba2, ba3⟩ := row4 h0
  clear h0
  have h0 : w9.heap[bb1]? = some (.cells #[.int .u8 1, .int .i64 n, .bool false, .string ⟨#[]⟩] 23 (0, 0)) := HK.out.got (bb1, ⟨1, n, false, ⟨#[]⟩⟩) (by simp)
  obtain ⟨bb10, bb11, bb12, bb13⟩ := row4 h0
  clear h0
  go_wp2_with fail
  refine (cP _ (HE.out.below HK.out.hb).tabs).mono ?_
  rintro e w10 ⟨rfl, bb⟩
  have HK1 := hid (HK.out.below bb)
  clear bb HK 
  have HK := hid HK1.out
  clear HK1
  clear ba0 ba1 ba2 ba3 bb10 bb11 bb12 bb13
  clear bs0 bs1 bs2 bs3 bt0 bt1 bt2 bt3
  go_upto_region 14 with fail
  have HK1 : Hid (KV ((w10.heap.size, ⟨pk, pn, false, ⟨#[]⟩⟩) :: [(bt, ⟨0, 0, false, ⟨#[]⟩⟩), (bs, ⟨0, 0, false, ⟨#[]⟩⟩), (bb1, ⟨1, n, false, ⟨#[]⟩⟩), (ba, ⟨1, m, false, ⟨#[]⟩⟩)]) w (w10.alloc (.cells #[.int .u8 pk, .int .i64 pn, .bool false, .string ⟨#[]⟩] 23))) := HK.out.box ⟨pk, pn, false, ⟨#[]⟩⟩
  generalize World.alloc w10 _ = w11 at *
  obtain ⟨bp, hbp⟩ : ∃ bp, w10.heap.size = bp := ⟨_, rfl⟩
  rw [hbp] at HK1 ⊢
  clear hbp HK
  have HK := hid HK1.out
  clear HK1
  have h0 : w11.heap[bb1]? = some (.cells #[.int .u8 1, .int .i64 n, .bool false, .string ⟨#[]⟩] 23 (0, 0)) := HK.out.got (bb1, ⟨1, n, false, ⟨#[]⟩⟩) (by simp)
  obtain ⟨bb10, bb11, bb12, bb13⟩ := row4 h0
  clear h0
  have h0 : w11.heap[ba]? = some (.cells #[.int .u8 1, .int .i64 m, .bool false, .string ⟨#[]⟩] 23 (0, 0)) := HK.out.got (ba, ⟨1, m, false, ⟨#[]⟩⟩) (by simp)
  obtain ⟨ba0, ba1, ba2, ba3⟩ := row4 h0
  clear h0
  go_wp2_with fail
  refine (cQ _ (HE.out.below HK.out.hb).tabs).mono ?_
  rintro e w12 ⟨rfl, bb⟩
  have HK1 := hid (HK.out.below bb)
  clear bb HK 
  have HK := hid HK1.out
  clear HK1
  clear bb10 bb11 bb12 bb13 ba0 ba1 ba2 ba3
  go_upto_region 15 with fail
  have HK1 : Hid (KV ((w12.heap.size, ⟨pk, pn, false, ⟨#[]⟩⟩) :: [(bp, ⟨pk, pn, false, ⟨#[]⟩⟩), (bt, ⟨0, 0, false, ⟨#[]⟩⟩), (bs, ⟨0, 0, false, ⟨#[]⟩⟩), (bb1, ⟨1, n, false, ⟨#[]⟩⟩), (ba, ⟨1, m, false, ⟨#[]⟩⟩)]) w (w12.alloc (.cells #[.int .u8 pk, .int .i64 pn, .bool false, .string ⟨#[]⟩] 23))) := HK.out.box ⟨pk, pn, false, ⟨#[]⟩⟩
  generalize World.alloc w12 _ = w13 at *
  obtain ⟨bq, hbq⟩ : ∃ bq, w12.heap.size = bq := ⟨_, rfl⟩
  rw [hbq] at HK1 ⊢
  clear hbq HK
  have HK := hid HK1.out
  clear HK1
  have h0 : w13.heap[bp]? = some (.cells #[.int .u8 pk, .int .i64 pn, .bool false, .string ⟨#[]⟩] 23 (0, 0)) := HK.out.got (bp, ⟨pk, pn, false, ⟨#[]⟩⟩) (by simp)
  obtain ⟨bp0, bp1, bp2, bp3⟩ := row4 h0
  clear h0
  have h0 : w13.heap[bq]? = some (.cells #[.int .u8 pk, .int .i64 pn, .bool false, .string ⟨#[]⟩] 23 (0, 0)) := HK.out.got (bq, ⟨pk, pn, false, ⟨#[]⟩⟩) (by simp)
  obtain ⟨bq0, bq1, bq2, bq3⟩ := row4 h0
  clear h0
  have h0 : w13.heap[ba]? = some (.cells #[.int .u8 1, .int .i64 m, .bool false, .string ⟨#[]⟩] 23 (0, 0)) := HK.out.got (ba, ⟨1, m, false, ⟨#[]⟩⟩) (by simp)
  obtain ⟨ba0, ba1, ba2, ba3⟩ := row4 h0
  clear h0
  have h0 : w13.heap[bb1]? = some (.cells #[.int .u8 1, .int .i64 n, .bool false, .string ⟨#[]⟩] 23 (0, 0)) := HK.out.got (bb1, ⟨1, n, false, ⟨#[]⟩⟩) (by simp)
  obtain ⟨bb10, bb11, bb12, bb13⟩ := row4 h0
  clear h0
  go_wp2_with fail
  refine (cD _ (HE.out.below HK.out.hb).tabs).mono ?_
  rintro e w14 ⟨rfl, bb⟩
  have HK1 := hid (HK.out.below bb)
  clear bb HK 
  have HK := hid HK1.out
  clear HK1
  clear ba0 ba1 ba2 ba3 bb10 bb11 bb12 bb13
  clear bp0 bp1 bp2 bp3 bq0 bq1 bq2 bq3
  go_upto_region 18 with fail
  have HK1 : Hid (KV ((w14.heap.size, ⟨0, 0, false, ⟨#[]⟩⟩) :: [(bq, ⟨pk, pn, false, ⟨#[]⟩⟩), (bp, ⟨pk, pn, false, ⟨#[]⟩⟩), (bt, ⟨0, 0, false, ⟨#[]⟩⟩), (bs, ⟨0, 0, false, ⟨#[]⟩⟩), (bb1, ⟨1, n, false, ⟨#[]⟩⟩), (ba, ⟨1, m, false, ⟨#[]⟩⟩)]) w (w14.alloc (.cells #[.int .u8 0, .int .i64 0, .bool false, .string ⟨#[]⟩] 23))) := HK.out.box ⟨0, 0, false, ⟨#[]⟩⟩
  generalize World.alloc w14 _ = w15 at *
  obtain ⟨bd2, hbd2⟩ : ∃ bd2, w14.heap.size = bd2 := ⟨_, rfl⟩
  rw [hbd2] at HK1 ⊢
  clear hbd2 HK
  have HK := hid HK1.out
  clear HK1
  have h0 : w15.heap[ba]? = some (.cells #[.int .u8 1, .int .i64 m, .bool false, .string ⟨#[]⟩] 23 (0, 0)) := HK.out.got (ba, ⟨1, m, false, ⟨#[]⟩⟩) (by simp)
  obtain ⟨ba0, ba1, ba2, ba3⟩ := row4 h0
  clear h0
  have h0 : w15.heap[bb1]? = some (.cells #[.int .u8 1, .int .i64 n, .bool false, .string ⟨#[]⟩] 23 (0, 0)) := HK.out.got (bb1, ⟨1, n, false, ⟨#[]⟩⟩) (by simp)
  obtain ⟨bb10, bb11, bb12, bb13⟩ := row4 h0
  clear h0
  go_wp2_with fail
  refine (cM _ (HE.out.below HK.out.hb).tabs).mono ?_
  rintro e w16 ⟨rfl, bb⟩
  have HK1 := hid (HK.out.below bb)
  clear bb HK 
  have HK := hid HK1.out
  clear HK1
  clear ba0 ba1 ba2 ba3 bb10 bb11 bb12 bb13
  go_upto_region 19 with fail
  have HK1 : Hid (KV ((w16.heap.size, ⟨1, 0, false, ⟨#[]⟩⟩) :: [(bd2, ⟨0, 0, false, ⟨#[]⟩⟩), (bq, ⟨pk, pn, false, ⟨#[]⟩⟩), (bp, ⟨pk, pn, false, ⟨#[]⟩⟩), (bt, ⟨0, 0, false, ⟨#[]⟩⟩), (bs, ⟨0, 0, false, ⟨#[]⟩⟩), (bb1, ⟨1, n, false, ⟨#[]⟩⟩), (ba, ⟨1, m, false, ⟨#[]⟩⟩)]) w (w16.alloc (.cells #[.int .u8 1, .int .i64 0, .bool false, .string ⟨#[]⟩] 23))) := HK.out.box ⟨1, 0, false, ⟨#[]⟩⟩
  generalize World.alloc w16 _ = w17 at *
  obtain ⟨br, hbr⟩ : ∃ br, w16.heap.size = br := ⟨_, rfl⟩
  rw [hbr] at HK1 ⊢
  clear hbr HK
  have HK := hid HK1.out
  clear HK1
  have h0 : w17.heap[br]? = some (.cells #[.int .u8 1, .int .i64 0, .bool false, .string ⟨#[]⟩] 23 (0, 0)) := HK.out.got (br, ⟨1, 0, false, ⟨#[]⟩⟩) (by simp)
  obtain ⟨br0, br1, br2, br3⟩ := row4 h0
  clear h0
  go_wp2_with fail
  refine (cF _).mono ?_
  rintro e ww ⟨rfl, rfl⟩
  go_wp2_with fail
  refine (cG _).mono ?_
  rintro e ww2 ⟨rfl, rfl⟩
  go_wp2_with fail
  go_ret
  exact ⟨rfl, HK.out.hb⟩

set_option maxRecDepth 100000 in
set_option maxHeartbeats 8000000 in
theorem rings_n_norm (m n : Int) (w : World) (hE : VEnv w) (hm : In m) (hn : In n) (hs : ¬ In (m + n)) (h0 : n ≠ 0) (h1 : ¬ (m = -9223372036854775808 ∧ n = -1)) :
    Calls Tryd.prog 9 #[.int .i64 m, .int .i64 n] w fun e w' => e = .returned (.bool true) ∧ Below w.heap.size w w' := by
  have cA := rk_add m n hm hn
  rw [ranged_no hs] at cA
  have cB := rk_add n m hn hm
  rw [show n + m = m + n by omega, ranged_no hs] at cB
  replace cA : Rk 12 m n 0 0 91 := cA
  replace cB : Rk 12 n m 0 0 91 := cB
  have cP := rk_mul m n hm hn
  have cQ := rk_mul n m hn hm
  rw [Int.mul_comm n m] at cQ
  obtain ⟨⟨pk, pn, pe⟩, hp⟩ : ∃ R, ranged (m * n) = R := ⟨_, rfl⟩
  rw [hp] at cP cQ
  simp only at cP cQ
  clear hp
  have cD := rk_div m n hm
  have cM := rk_mod m n hn
  unfold divR at cD
  unfold modR at cM
  have i1 := tdiv_in hm h0 h1
  have i2 := tmod_in (n := m) hn h0
  rw [if_neg h0] at cD cM
  rw [ranged_yes i1] at cD
  rw [ranged_yes i2] at cM
  have cX := rk_mul (m.tdiv n) n i1 hn
  have hk := tdiv_tmod m n
  have hab : (m.tmod n).natAbs < n.natAbs := by
    have hk : (m.tmod n).natAbs = m.natAbs % n.natAbs := Int.natAbs_tmod m n
    have := Nat.mod_lt m.natAbs (show 0 < n.natAbs by omega)
    omega
  have hsg : m.tmod n ≠ 0 → (decide (m.tmod n < 0) = decide (m < 0)) := tmod_sign m n
  have hle : (m.tmod n).natAbs ≤ m.natAbs := by
    have hk : (m.tmod n).natAbs = m.natAbs % n.natAbs := Int.natAbs_tmod m n
    have := Nat.mod_le m.natAbs n.natAbs
    omega
  obtain ⟨q, hq⟩ : ∃ q, m.tdiv n = q := ⟨_, rfl⟩
  obtain ⟨r, hr⟩ : ∃ r, m.tmod n = r := ⟨_, rfl⟩
  rw [hq] at cD cX i1 hk
  rw [hr] at cM i2 hk hab hsg hle
  obtain ⟨x, hx⟩ : ∃ x, q * n = x := ⟨_, rfl⟩
  rw [hx] at hk cX
  have ix : In x := by
    have e : x = m - r := by omega
    by_cases hr0 : r = 0
    · rw [e, hr0]; simpa using hm
    · have h3 := hsg hr0
      unfold In at hm ⊢
      by_cases hm0 : m < 0
      · rw [decide_eq_true hm0, decide_eq_true_eq] at h3; omega
      · rw [decide_eq_false hm0, decide_eq_false_iff_not] at h3; omega
  rw [ranged_yes ix] at cX
  have cY := rk_add x r ix i2
  rw [hk, ranged_yes hm] at cY
  replace cD : Rk 17 m n 1 q 0 := cD
  replace cM : Rk 18 m n 1 r 0 := cM
  replace cX : Rk 16 q n 1 x 0 := cX
  replace cY : Rk 12 x r 1 m 0 := cY
  have z0 : (n == 0) = false := beq_eq_false_iff_ne.2 h0
  have cF := fun X => far_any r X i2.1 i2.2
  have cG := fun X => far_any n X hn.1 hn.2
  obtain ⟨a1, ha1⟩ : ∃ a, r.natAbs = a := ⟨_, rfl⟩
  obtain ⟨a2, ha2⟩ : ∃ a, n.natAbs = a := ⟨_, rfl⟩
  rw [ha1] at cF hab
  rw [ha2] at cG hab
  have z3 : decide ((a2 : Int) ≤ (a1 : Int)) = false := by simp; omega
  have z4 : decide (a2 ≤ a1) = false := by simp; omega
  have cE := fun W => eq_yes 1 m false ⟨#[]⟩ W
  replace cE : ∀ W : World, (binOp .eql 23 (.agg #[.int .u8 1, .int .i64 m, .bool false, .string ⟨#[]⟩]) (.agg #[.int .u8 1, .int .i64 m, .bool false, .string ⟨#[]⟩])).run Tryd.prog W = .ok (.bool true) W := cE
  clear ha1 ha2 hx hq hr hk hab ix i1 i2 hle
  have n1 : ∀ W : World, (binOp .neq 23 (.agg #[.int .u8 0, .int .i64 0, .bool false, .string ⟨#[]⟩]) (.agg #[.int .u8 0, .int .i64 0, .bool false, .string ⟨#[]⟩])).run Tryd.prog W = .ok (.bool false) W := fun W => neq_no 0 (0) false ⟨#[]⟩ W
  have n2 : ∀ W : World, (binOp .neq 23 (.agg #[.int .u8 pk, .int .i64 pn, .bool false, .string ⟨#[]⟩]) (.agg #[.int .u8 pk, .int .i64 pn, .bool false, .string ⟨#[]⟩])).run Tryd.prog W = .ok (.bool false) W := fun W => neq_no pk (pn) false ⟨#[]⟩ W
  have HE := hid hE
  by_cases hr0 : r = 0
  · have y0 : (r != 0) = false := by simp [hr0]
    have y1 : (r == 0) = true := by simp [hr0]
    clear hE hm hn hs hr0 hsg h0 h1
    have HK := hid (KV.start w)
    go_enter Tryd.func9, Tryd.ntmps9
    go_wp2_with fail
    refine (works_any _ (HE.out.below HK.out.hb)).mono ?_
    rintro e w1 ⟨rfl, bb⟩
    have HK1 := hid (HK.out.below bb)
    clear bb HK 
    have HK := hid HK1.out
    clear HK1
    go_wp2_with fail
    refine (vnumber_any m _).mono ?_
    rintro e w2 ⟨rfl, bb⟩
    have HK1 := hid (HK.out.below bb)
    clear bb HK 
    have HK := hid HK1.out
    clear HK1
    go_upto_region 4 with fail
    have HK1 : Hid (KV ((w2.heap.size, ⟨1, m, false, ⟨#[]⟩⟩) :: []) w (w2.alloc (.cells #[.int .u8 1, .int .i64 m, .bool false, .string ⟨#[]⟩] 23))) := HK.out.box ⟨1, m, false, ⟨#[]⟩⟩
    generalize World.alloc w2 _ = w3 at *
    obtain ⟨ba, hba⟩ : ∃ ba, w2.heap.size = ba := ⟨_, rfl⟩
    rw [hba] at HK1 ⊢
    clear hba HK
    have HK := hid HK1.out
    clear HK1
    go_wp2_with fail
    refine (vnumber_any n _).mono ?_
    rintro e w4 ⟨rfl, bb⟩
    have HK1 := hid (HK.out.below bb)
    clear bb HK 
    have HK := hid HK1.out
    clear HK1
    go_upto_region 5 with fail
    have HK1 : Hid (KV ((w4.heap.size, ⟨1, n, false, ⟨#[]⟩⟩) :: [(ba, ⟨1, m, false, ⟨#[]⟩⟩)]) w (w4.alloc (.cells #[.int .u8 1, .int .i64 n, .bool false, .string ⟨#[]⟩] 23))) := HK.out.box ⟨1, n, false, ⟨#[]⟩⟩
    generalize World.alloc w4 _ = w5 at *
    obtain ⟨bb1, hbb1⟩ : ∃ bb1, w4.heap.size = bb1 := ⟨_, rfl⟩
    rw [hbb1] at HK1 ⊢
    clear hbb1 HK
    have HK := hid HK1.out
    clear HK1
    have h0 : w5.heap[ba]? = some (.cells #[.int .u8 1, .int .i64 m, .bool false, .string ⟨#[]⟩] 23 (0, 0)) := HK.out.got (ba, ⟨1, m, false, ⟨#[]⟩⟩) (by simp)
    obtain ⟨ba0, ba1, ba2, ba3⟩ := row4 h0
    clear h0
    have h0 : w5.heap[bb1]? = some (.cells #[.int .u8 1, .int .i64 n, .bool false, .string ⟨#[]⟩] 23 (0, 0)) := HK.out.got (bb1, ⟨1, n, false, ⟨#[]⟩⟩) (by simp)
    obtain ⟨bb10, bb11, bb12, bb13⟩ := row4 h0
    clear h0
    go_wp2_with fail
    refine (cA _ (HE.out.below HK.out.hb).tabs).mono ?_
    rintro e w6 ⟨rfl, bb⟩
    have HK1 := hid (HK.out.below bb)
    clear bb HK 
    have HK := hid HK1.out
    clear HK1
    clear ba0 ba1 ba2 ba3 bb10 bb11 bb12 bb13
    go_upto_region 6 with fail
    have HK1 : Hid (KV ((w6.heap.size, ⟨0, 0, false, ⟨#[]⟩⟩) :: [(bb1, ⟨1, n, false, ⟨#[]⟩⟩), (ba, ⟨1, m, false, ⟨#[]⟩⟩)]) w (w6.alloc (.cells #[.int .u8 0, .int .i64 0, .bool false, .string ⟨#[]⟩] 23))) := HK.out.box ⟨0, 0, false, ⟨#[]⟩⟩
    generalize World.alloc w6 _ = w7 at *
    obtain ⟨bs, hbs⟩ : ∃ bs, w6.heap.size = bs := ⟨_, rfl⟩
    rw [hbs] at HK1 ⊢
    clear hbs HK
    have HK := hid HK1.out
    clear HK1
    have h0 : w7.heap[bb1]? = some (.cells #[.int .u8 1, .int .i64 n, .bool false, .string ⟨#[]⟩] 23 (0, 0)) := HK.out.got (bb1, ⟨1, n, false, ⟨#[]⟩⟩) (by simp)
    obtain ⟨bb10, bb11, bb12, bb13⟩ := row4 h0
    clear h0
    have h0 : w7.heap[ba]? = some (.cells #[.int .u8 1, .int .i64 m, .bool false, .string ⟨#[]⟩] 23 (0, 0)) := HK.out.got (ba, ⟨1, m, false, ⟨#[]⟩⟩) (by simp)
    obtain ⟨ba0, ba1, ba2, ba3⟩ := row4 h0
    clear h0
    go_wp2_with fail
    refine (cB _ (HE.out.below HK.out.hb).tabs).mono ?_
    rintro e w8 ⟨rfl, bb⟩
    have HK1 := hid (HK.out.below bb)
    clear bb HK 
    have HK := hid HK1.out
    clear HK1
    clear bb10 bb11 bb12 bb13 ba0 ba1 ba2 ba3
    go_upto_region 7 with fail
    have HK1 : Hid (KV ((w8.heap.size, ⟨0, 0, false, ⟨#[]⟩⟩) :: [(bs, ⟨0, 0, false, ⟨#[]⟩⟩), (bb1, ⟨1, n, false, ⟨#[]⟩⟩), (ba, ⟨1, m, false, ⟨#[]⟩⟩)]) w (w8.alloc (.cells #[.int .u8 0, .int .i64 0, .bool false, .string ⟨#[]⟩] 23))) := HK.out.box ⟨0, 0, false, ⟨#[]⟩⟩
    generalize World.alloc w8 _ = w9 at *
    obtain ⟨bt, hbt⟩ : ∃ bt, w8.heap.size = bt := ⟨_, rfl⟩
    rw [hbt] at HK1 ⊢
    clear hbt HK
    have HK := hid HK1.out
    clear HK1
    have h0 : w9.heap[bs]? = some (.cells #[.int .u8 0, .int .i64 0, .bool false, .string ⟨#[]⟩] 23 (0, 0)) := HK.out.got (bs, ⟨0, 0, false, ⟨#[]⟩⟩) (by simp)
    obtain ⟨bs0, bs1, bs2, bs3⟩ := row4 h0
    clear h0
    have h0 : w9.heap[bt]? = some (.cells #[.int .u8 0, .int .i64 0, .bool false, .string ⟨#[]⟩] 23 (0, 0)) := HK.out.got (bt, ⟨0, 0, false, ⟨#[]⟩⟩) (by simp)
    obtain ⟨bt0, bt1, bt2, bt3⟩ := row4 h0
    clear h0
    have h0 : w9.heap[ba]? = some (.cells #[.int .u8 1, .int .i64 m, .bool false, .string ⟨#[]⟩] 23 (0, 0)) := HK.out.got (ba, ⟨1, m, false, ⟨#[]⟩⟩) (by simp)
    obtain ⟨ba0, ba1, ba2, ba3⟩ := row4 h0
    clear h0
    have h0 : w9.heap[bb1]? = some (.cells #[.int .u8 1, .int .i64 n, .bool false, .string ⟨#[]⟩] 23 (0, 0)) := HK.out.got (bb1, ⟨1, n, false, ⟨#[]⟩⟩) (by simp)
    obtain ⟨bb10, bb11, bb12, bb13⟩ := row4 h0
    clear h0
    go_wp2_with fail
    refine (cP _ (HE.out.below HK.out.hb).tabs).mono ?_
    rintro e w10 ⟨rfl, bb⟩
    have HK1 := hid (HK.out.below bb)
    clear bb HK 
    have HK := hid HK1.out
    clear HK1
    clear ba0 ba1 ba2 ba3 bb10 bb11 bb12 bb13
    clear bs0 bs1 bs2 bs3 bt0 bt1 bt2 bt3
    go_upto_region 14 with fail
    have HK1 : Hid (KV ((w10.heap.size, ⟨pk, pn, false, ⟨#[]⟩⟩) :: [(bt, ⟨0, 0, false, ⟨#[]⟩⟩), (bs, ⟨0, 0, false, ⟨#[]⟩⟩), (bb1, ⟨1, n, false, ⟨#[]⟩⟩), (ba, ⟨1, m, false, ⟨#[]⟩⟩)]) w (w10.alloc (.cells #[.int .u8 pk, .int .i64 pn, .bool false, .string ⟨#[]⟩] 23))) := HK.out.box ⟨pk, pn, false, ⟨#[]⟩⟩
    generalize World.alloc w10 _ = w11 at *
    obtain ⟨bp, hbp⟩ : ∃ bp, w10.heap.size = bp := ⟨_, rfl⟩
    rw [hbp] at HK1 ⊢
    clear hbp HK
    have HK := hid HK1.out
    clear HK1
    have h0 : w11.heap[bb1]? = some (.cells #[.int .u8 1, .int .i64 n, .bool false, .string ⟨#[]⟩] 23 (0, 0)) := HK.out.got (bb1, ⟨1, n, false, ⟨#[]⟩⟩) (by simp)
    obtain ⟨bb10, bb11, bb12, bb13⟩ := row4 h0
    clear h0
    have h0 : w11.heap[ba]? = some (.cells #[.int .u8 1, .int .i64 m, .bool false, .string ⟨#[]⟩] 23 (0, 0)) := HK.out.got (ba, ⟨1, m, false, ⟨#[]⟩⟩) (by simp)
    obtain ⟨ba0, ba1, ba2, ba3⟩ := row4 h0
    clear h0
    go_wp2_with fail
    refine (cQ _ (HE.out.below HK.out.hb).tabs).mono ?_
    rintro e w12 ⟨rfl, bb⟩
    have HK1 := hid (HK.out.below bb)
    clear bb HK 
    have HK := hid HK1.out
    clear HK1
    clear bb10 bb11 bb12 bb13 ba0 ba1 ba2 ba3
    go_upto_region 15 with fail
    have HK1 : Hid (KV ((w12.heap.size, ⟨pk, pn, false, ⟨#[]⟩⟩) :: [(bp, ⟨pk, pn, false, ⟨#[]⟩⟩), (bt, ⟨0, 0, false, ⟨#[]⟩⟩), (bs, ⟨0, 0, false, ⟨#[]⟩⟩), (bb1, ⟨1, n, false, ⟨#[]⟩⟩), (ba, ⟨1, m, false, ⟨#[]⟩⟩)]) w (w12.alloc (.cells #[.int .u8 pk, .int .i64 pn, .bool false, .string ⟨#[]⟩] 23))) := HK.out.box ⟨pk, pn, false, ⟨#[]⟩⟩
    generalize World.alloc w12 _ = w13 at *
    obtain ⟨bq, hbq⟩ : ∃ bq, w12.heap.size = bq := ⟨_, rfl⟩
    rw [hbq] at HK1 ⊢
    clear hbq HK
    have HK := hid HK1.out
    clear HK1
    have h0 : w13.heap[bp]? = some (.cells #[.int .u8 pk, .int .i64 pn, .bool false, .string ⟨#[]⟩] 23 (0, 0)) := HK.out.got (bp, ⟨pk, pn, false, ⟨#[]⟩⟩) (by simp)
    obtain ⟨bp0, bp1, bp2, bp3⟩ := row4 h0
    clear h0
    have h0 : w13.heap[bq]? = some (.cells #[.int .u8 pk, .int .i64 pn, .bool false, .string ⟨#[]⟩] 23 (0, 0)) := HK.out.got (bq, ⟨pk, pn, false, ⟨#[]⟩⟩) (by simp)
    obtain ⟨bq0, bq1, bq2, bq3⟩ := row4 h0
    clear h0
    have h0 : w13.heap[ba]? = some (.cells #[.int .u8 1, .int .i64 m, .bool false, .string ⟨#[]⟩] 23 (0, 0)) := HK.out.got (ba, ⟨1, m, false, ⟨#[]⟩⟩) (by simp)
    obtain ⟨ba0, ba1, ba2, ba3⟩ := row4 h0
    clear h0
    have h0 : w13.heap[bb1]? = some (.cells #[.int .u8 1, .int .i64 n, .bool false, .string ⟨#[]⟩] 23 (0, 0)) := HK.out.got (bb1, ⟨1, n, false, ⟨#[]⟩⟩) (by simp)
    obtain ⟨bb10, bb11, bb12, bb13⟩ := row4 h0
    clear h0
    go_wp2_with fail
    refine (cD _ (HE.out.below HK.out.hb).tabs).mono ?_
    rintro e w14 ⟨rfl, bb⟩
    have HK1 := hid (HK.out.below bb)
    clear bb HK 
    have HK := hid HK1.out
    clear HK1
    clear ba0 ba1 ba2 ba3 bb10 bb11 bb12 bb13
    clear bp0 bp1 bp2 bp3 bq0 bq1 bq2 bq3
    go_upto_region 18 with fail
    have HK1 : Hid (KV ((w14.heap.size, ⟨1, q, false, ⟨#[]⟩⟩) :: [(bq, ⟨pk, pn, false, ⟨#[]⟩⟩), (bp, ⟨pk, pn, false, ⟨#[]⟩⟩), (bt, ⟨0, 0, false, ⟨#[]⟩⟩), (bs, ⟨0, 0, false, ⟨#[]⟩⟩), (bb1, ⟨1, n, false, ⟨#[]⟩⟩), (ba, ⟨1, m, false, ⟨#[]⟩⟩)]) w (w14.alloc (.cells #[.int .u8 1, .int .i64 q, .bool false, .string ⟨#[]⟩] 23))) := HK.out.box ⟨1, q, false, ⟨#[]⟩⟩
    generalize World.alloc w14 _ = w15 at *
    obtain ⟨bd2, hbd2⟩ : ∃ bd2, w14.heap.size = bd2 := ⟨_, rfl⟩
    rw [hbd2] at HK1 ⊢
    clear hbd2 HK
    have HK := hid HK1.out
    clear HK1
    have h0 : w15.heap[ba]? = some (.cells #[.int .u8 1, .int .i64 m, .bool false, .string ⟨#[]⟩] 23 (0, 0)) := HK.out.got (ba, ⟨1, m, false, ⟨#[]⟩⟩) (by simp)
    obtain ⟨ba0, ba1, ba2, ba3⟩ := row4 h0
    clear h0
    have h0 : w15.heap[bb1]? = some (.cells #[.int .u8 1, .int .i64 n, .bool false, .string ⟨#[]⟩] 23 (0, 0)) := HK.out.got (bb1, ⟨1, n, false, ⟨#[]⟩⟩) (by simp)
    obtain ⟨bb10, bb11, bb12, bb13⟩ := row4 h0
    clear h0
    go_wp2_with fail
    refine (cM _ (HE.out.below HK.out.hb).tabs).mono ?_
    rintro e w16 ⟨rfl, bb⟩
    have HK1 := hid (HK.out.below bb)
    clear bb HK 
    have HK := hid HK1.out
    clear HK1
    clear ba0 ba1 ba2 ba3 bb10 bb11 bb12 bb13
    go_upto_region 19 with fail
    have HK1 : Hid (KV ((w16.heap.size, ⟨1, r, false, ⟨#[]⟩⟩) :: [(bd2, ⟨1, q, false, ⟨#[]⟩⟩), (bq, ⟨pk, pn, false, ⟨#[]⟩⟩), (bp, ⟨pk, pn, false, ⟨#[]⟩⟩), (bt, ⟨0, 0, false, ⟨#[]⟩⟩), (bs, ⟨0, 0, false, ⟨#[]⟩⟩), (bb1, ⟨1, n, false, ⟨#[]⟩⟩), (ba, ⟨1, m, false, ⟨#[]⟩⟩)]) w (w16.alloc (.cells #[.int .u8 1, .int .i64 r, .bool false, .string ⟨#[]⟩] 23))) := HK.out.box ⟨1, r, false, ⟨#[]⟩⟩
    generalize World.alloc w16 _ = w17 at *
    obtain ⟨br, hbr⟩ : ∃ br, w16.heap.size = br := ⟨_, rfl⟩
    rw [hbr] at HK1 ⊢
    clear hbr HK
    have HK := hid HK1.out
    clear HK1
    have h0 : w17.heap[br]? = some (.cells #[.int .u8 1, .int .i64 r, .bool false, .string ⟨#[]⟩] 23 (0, 0)) := HK.out.got (br, ⟨1, r, false, ⟨#[]⟩⟩) (by simp)
    obtain ⟨br0, br1, br2, br3⟩ := row4 h0
    clear h0
    go_wp2_with fail
    refine (cF _).mono ?_
    rintro e ww ⟨rfl, rfl⟩
    go_wp2_with fail
    refine (cG _).mono ?_
    rintro e ww2 ⟨rfl, rfl⟩
    obtain ⟨wz, hwz⟩ : ∃ wz : World, wz = wz := ⟨w, rfl⟩
    clear hwz wz
    clear br0 br1 br2 br3
    have HK1 := hid HK.out
    clear HK
    have HK := hid HK1.out
    clear HK1
    have h0 : ww2.heap[bd2]? = some (.cells #[.int .u8 1, .int .i64 q, .bool false, .string ⟨#[]⟩] 23 (0, 0)) := HK.out.got (bd2, ⟨1, q, false, ⟨#[]⟩⟩) (by simp)
    obtain ⟨bd20, bd21, bd22, bd23⟩ := row4 h0
    clear h0
    have h0 : ww2.heap[bb1]? = some (.cells #[.int .u8 1, .int .i64 n, .bool false, .string ⟨#[]⟩] 23 (0, 0)) := HK.out.got (bb1, ⟨1, n, false, ⟨#[]⟩⟩) (by simp)
    obtain ⟨bb10, bb11, bb12, bb13⟩ := row4 h0
    clear h0
    go_wp2_with fail
    refine (cX _ (HE.out.below HK.out.hb).tabs).mono ?_
    rintro e v1 ⟨rfl, bb⟩
    have HK1 := hid (HK.out.below bb)
    clear bb HK 
    have HK := hid HK1.out
    clear HK1
    clear bd20 bd21 bd22 bd23 bb10 bb11 bb12 bb13
    go_upto_region 26 with fail
    have HK1 : Hid (KV ((v1.heap.size, ⟨1, x, false, ⟨#[]⟩⟩) :: [(br, ⟨1, r, false, ⟨#[]⟩⟩), (bd2, ⟨1, q, false, ⟨#[]⟩⟩), (bq, ⟨pk, pn, false, ⟨#[]⟩⟩), (bp, ⟨pk, pn, false, ⟨#[]⟩⟩), (bt, ⟨0, 0, false, ⟨#[]⟩⟩), (bs, ⟨0, 0, false, ⟨#[]⟩⟩), (bb1, ⟨1, n, false, ⟨#[]⟩⟩), (ba, ⟨1, m, false, ⟨#[]⟩⟩)]) w (v1.alloc (.cells #[.int .u8 1, .int .i64 x, .bool false, .string ⟨#[]⟩] 23))) := HK.out.box ⟨1, x, false, ⟨#[]⟩⟩
    generalize World.alloc v1 _ = v2 at *
    obtain ⟨bx, hbx⟩ : ∃ bx, v1.heap.size = bx := ⟨_, rfl⟩
    rw [hbx] at HK1 ⊢
    clear hbx HK
    have HK := hid HK1.out
    clear HK1
    have h0 : v2.heap[bx]? = some (.cells #[.int .u8 1, .int .i64 x, .bool false, .string ⟨#[]⟩] 23 (0, 0)) := HK.out.got (bx, ⟨1, x, false, ⟨#[]⟩⟩) (by simp)
    obtain ⟨bx0, bx1, bx2, bx3⟩ := row4 h0
    clear h0
    have h0 : v2.heap[br]? = some (.cells #[.int .u8 1, .int .i64 r, .bool false, .string ⟨#[]⟩] 23 (0, 0)) := HK.out.got (br, ⟨1, r, false, ⟨#[]⟩⟩) (by simp)
    obtain ⟨br0, br1, br2, br3⟩ := row4 h0
    clear h0
    go_wp2_with fail
    refine (cY _ (HE.out.below HK.out.hb).tabs).mono ?_
    rintro e v3 ⟨rfl, bb⟩
    have HK1 := hid (HK.out.below bb)
    clear bb HK 
    have HK := hid HK1.out
    clear HK1
    clear bx0 bx1 bx2 bx3 br0 br1 br2 br3
    go_upto_region 27 with fail
    have HK1 : Hid (KV ((v3.heap.size, ⟨1, m, false, ⟨#[]⟩⟩) :: [(bx, ⟨1, x, false, ⟨#[]⟩⟩), (br, ⟨1, r, false, ⟨#[]⟩⟩), (bd2, ⟨1, q, false, ⟨#[]⟩⟩), (bq, ⟨pk, pn, false, ⟨#[]⟩⟩), (bp, ⟨pk, pn, false, ⟨#[]⟩⟩), (bt, ⟨0, 0, false, ⟨#[]⟩⟩), (bs, ⟨0, 0, false, ⟨#[]⟩⟩), (bb1, ⟨1, n, false, ⟨#[]⟩⟩), (ba, ⟨1, m, false, ⟨#[]⟩⟩)]) w (v3.alloc (.cells #[.int .u8 1, .int .i64 m, .bool false, .string ⟨#[]⟩] 23))) := HK.out.box ⟨1, m, false, ⟨#[]⟩⟩
    generalize World.alloc v3 _ = v4 at *
    obtain ⟨by1, hby1⟩ : ∃ by1, v3.heap.size = by1 := ⟨_, rfl⟩
    rw [hby1] at HK1 ⊢
    clear hby1 HK
    have HK := hid HK1.out
    clear HK1
    have h0 : v4.heap[by1]? = some (.cells #[.int .u8 1, .int .i64 m, .bool false, .string ⟨#[]⟩] 23 (0, 0)) := HK.out.got (by1, ⟨1, m, false, ⟨#[]⟩⟩) (by simp)
    obtain ⟨by10, by11, by12, by13⟩ := row4 h0
    clear h0
    have h0 : v4.heap[ba]? = some (.cells #[.int .u8 1, .int .i64 m, .bool false, .string ⟨#[]⟩] 23 (0, 0)) := HK.out.got (ba, ⟨1, m, false, ⟨#[]⟩⟩) (by simp)
    obtain ⟨ba0, ba1, ba2, ba3⟩ := row4 h0
    clear h0
    go_wp2_with fail
    go_ret
    exact ⟨rfl, HK.out.hb⟩
  · have y0 : (r != 0) = true := by rw [bne_iff_ne]; exact hr0
    have y1 : (r == 0) = false := beq_eq_false_iff_ne.2 hr0
    have y2 := hsg hr0
    obtain ⟨sg, hsgn⟩ : ∃ b, decide (m < 0) = b := ⟨_, rfl⟩
    rw [hsgn] at y2
    clear hE hm hn hs hr0 hsg h0 h1
    have HK := hid (KV.start w)
    go_enter Tryd.func9, Tryd.ntmps9
    go_wp2_with fail
    refine (works_any _ (HE.out.below HK.out.hb)).mono ?_
    rintro e w1 ⟨rfl, bb⟩
    have HK1 := hid (HK.out.below bb)
    clear bb HK 
    have HK := hid HK1.out
    clear HK1
    go_wp2_with fail
    refine (vnumber_any m _).mono ?_
    rintro e w2 ⟨rfl, bb⟩
    have HK1 := hid (HK.out.below bb)
    clear bb HK 
    have HK := hid HK1.out
    clear HK1
    go_upto_region 4 with fail
    have HK1 : Hid (KV ((w2.heap.size, ⟨1, m, false, ⟨#[]⟩⟩) :: []) w (w2.alloc (.cells #[.int .u8 1, .int .i64 m, .bool false, .string ⟨#[]⟩] 23))) := HK.out.box ⟨1, m, false, ⟨#[]⟩⟩
    generalize World.alloc w2 _ = w3 at *
    obtain ⟨ba, hba⟩ : ∃ ba, w2.heap.size = ba := ⟨_, rfl⟩
    rw [hba] at HK1 ⊢
    clear hba HK
    have HK := hid HK1.out
    clear HK1
    go_wp2_with fail
    refine (vnumber_any n _).mono ?_
    rintro e w4 ⟨rfl, bb⟩
    have HK1 := hid (HK.out.below bb)
    clear bb HK 
    have HK := hid HK1.out
    clear HK1
    go_upto_region 5 with fail
    have HK1 : Hid (KV ((w4.heap.size, ⟨1, n, false, ⟨#[]⟩⟩) :: [(ba, ⟨1, m, false, ⟨#[]⟩⟩)]) w (w4.alloc (.cells #[.int .u8 1, .int .i64 n, .bool false, .string ⟨#[]⟩] 23))) := HK.out.box ⟨1, n, false, ⟨#[]⟩⟩
    generalize World.alloc w4 _ = w5 at *
    obtain ⟨bb1, hbb1⟩ : ∃ bb1, w4.heap.size = bb1 := ⟨_, rfl⟩
    rw [hbb1] at HK1 ⊢
    clear hbb1 HK
    have HK := hid HK1.out
    clear HK1
    have h0 : w5.heap[ba]? = some (.cells #[.int .u8 1, .int .i64 m, .bool false, .string ⟨#[]⟩] 23 (0, 0)) := HK.out.got (ba, ⟨1, m, false, ⟨#[]⟩⟩) (by simp)
    obtain ⟨ba0, ba1, ba2, ba3⟩ := row4 h0
    clear h0
    have h0 : w5.heap[bb1]? = some (.cells #[.int .u8 1, .int .i64 n, .bool false, .string ⟨#[]⟩] 23 (0, 0)) := HK.out.got (bb1, ⟨1, n, false, ⟨#[]⟩⟩) (by simp)
    obtain ⟨bb10, bb11, bb12, bb13⟩ := row4 h0
    clear h0
    go_wp2_with fail
    refine (cA _ (HE.out.below HK.out.hb).tabs).mono ?_
    rintro e w6 ⟨rfl, bb⟩
    have HK1 := hid (HK.out.below bb)
    clear bb HK 
    have HK := hid HK1.out
    clear HK1
    clear ba0 ba1 ba2 ba3 bb10 bb11 bb12 bb13
    go_upto_region 6 with fail
    have HK1 : Hid (KV ((w6.heap.size, ⟨0, 0, false, ⟨#[]⟩⟩) :: [(bb1, ⟨1, n, false, ⟨#[]⟩⟩), (ba, ⟨1, m, false, ⟨#[]⟩⟩)]) w (w6.alloc (.cells #[.int .u8 0, .int .i64 0, .bool false, .string ⟨#[]⟩] 23))) := HK.out.box ⟨0, 0, false, ⟨#[]⟩⟩
    generalize World.alloc w6 _ = w7 at *
    obtain ⟨bs, hbs⟩ : ∃ bs, w6.heap.size = bs := ⟨_, rfl⟩
    rw [hbs] at HK1 ⊢
    clear hbs HK
    have HK := hid HK1.out
    clear HK1
    have h0 : w7.heap[bb1]? = some (.cells #[.int .u8 1, .int .i64 n, .bool false, .string ⟨#[]⟩] 23 (0, 0)) := HK.out.got (bb1, ⟨1, n, false, ⟨#[]⟩⟩) (by simp)
    obtain ⟨bb10, bb11, bb12, bb13⟩ := row4 h0
    clear h0
    have h0 : w7.heap[ba]? = some (.cells #[.int .u8 1, .int .i64 m, .bool false, .string ⟨#[]⟩] 23 (0, 0)) := HK.out.got (ba, ⟨1, m, false, ⟨#[]⟩⟩) (by simp)
    obtain ⟨ba0, ba1, ba2, ba3⟩ := row4 h0
    clear h0
    go_wp2_with fail
    refine (cB _ (HE.out.below HK.out.hb).tabs).mono ?_
    rintro e w8 ⟨rfl, bb⟩
    have HK1 := hid (HK.out.below bb)
    clear bb HK 
    have HK := hid HK1.out
    clear HK1
    clear bb10 bb11 bb12 bb13 ba0 ba1 ba2 ba3
    go_upto_region 7 with fail
    have HK1 : Hid (KV ((w8.heap.size, ⟨0, 0, false, ⟨#[]⟩⟩) :: [(bs, ⟨0, 0, false, ⟨#[]⟩⟩), (bb1, ⟨1, n, false, ⟨#[]⟩⟩), (ba, ⟨1, m, false, ⟨#[]⟩⟩)]) w (w8.alloc (.cells #[.int .u8 0, .int .i64 0, .bool false, .string ⟨#[]⟩] 23))) := HK.out.box ⟨0, 0, false, ⟨#[]⟩⟩
    generalize World.alloc w8 _ = w9 at *
    obtain ⟨bt, hbt⟩ : ∃ bt, w8.heap.size = bt := ⟨_, rfl⟩
    rw [hbt] at HK1 ⊢
    clear hbt HK
    have HK := hid HK1.out
    clear HK1
    have h0 : w9.heap[bs]? = some (.cells #[.int .u8 0, .int .i64 0, .bool false, .string ⟨#[]⟩] 23 (0, 0)) := HK.out.got (bs, ⟨0, 0, false, ⟨#[]⟩⟩) (by simp)
    obtain ⟨bs0, bs1, bs2, bs3⟩ := row4 h0
    clear h0
    have h0 : w9.heap[bt]? = some (.cells #[.int .u8 0, .int .i64 0, .bool false, .string ⟨#[]⟩] 23 (0, 0)) := HK.out.got (bt, ⟨0, 0, false, ⟨#[]⟩⟩) (by simp)
    obtain ⟨bt0, bt1, bt2, bt3⟩ := row4 h0
    clear h0
    have h0 : w9.heap[ba]? = some (.cells #[.int .u8 1, .int .i64 m, .bool false, .string ⟨#[]⟩] 23 (0, 0)) := HK.out.got (ba, ⟨1, m, false, ⟨#[]⟩⟩) (by simp)
    obtain ⟨ba0, ba1, ba2, ba3⟩ := row4 h0
    clear h0
    have h0 : w9.heap[bb1]? = some (.cells #[.int .u8 1, .int .i64 n, .bool false, .string ⟨#[]⟩] 23 (0, 0)) := HK.out.got (bb1, ⟨1, n, false, ⟨#[]⟩⟩) (by simp)
    obtain ⟨bb10, bb11, bb12, bb13⟩ := row4 h0
    clear h0
    go_wp2_with fail
    refine (cP _ (HE.out.below HK.out.hb).tabs).mono ?_
    rintro e w10 ⟨rfl, bb⟩
    have HK1 := hid (HK.out.below bb)
    clear bb HK 
    have HK := hid HK1.out
    clear HK1
    clear ba0 ba1 ba2 ba3 bb10 bb11 bb12 bb13
    clear bs0 bs1 bs2 bs3 bt0 bt1 bt2 bt3
    go_upto_region 14 with fail
    have HK1 : Hid (KV ((w10.heap.size, ⟨pk, pn, false, ⟨#[]⟩⟩) :: [(bt, ⟨0, 0, false, ⟨#[]⟩⟩), (bs, ⟨0, 0, false, ⟨#[]⟩⟩), (bb1, ⟨1, n, false, ⟨#[]⟩⟩), (ba, ⟨1, m, false, ⟨#[]⟩⟩)]) w (w10.alloc (.cells #[.int .u8 pk, .int .i64 pn, .bool false, .string ⟨#[]⟩] 23))) := HK.out.box ⟨pk, pn, false, ⟨#[]⟩⟩
    generalize World.alloc w10 _ = w11 at *
    obtain ⟨bp, hbp⟩ : ∃ bp, w10.heap.size = bp := ⟨_, rfl⟩
    rw [hbp] at HK1 ⊢
    clear hbp HK
    have HK := hid HK1.out
    clear HK1
    have h0 : w11.heap[bb1]? = some (.cells #[.int .u8 1, .int .i64 n, .bool false, .string ⟨#[]⟩] 23 (0, 0)) := HK.out.got (bb1, ⟨1, n, false, ⟨#[]⟩⟩) (by simp)
    obtain ⟨bb10, bb11, bb12, bb13⟩ := row4 h0
    clear h0
    have h0 : w11.heap[ba]? = some (.cells #[.int .u8 1, .int .i64 m, .bool false, .string ⟨#[]⟩] 23 (0, 0)) := HK.out.got (ba, ⟨1, m, false, ⟨#[]⟩⟩) (by simp)
    obtain ⟨ba0, ba1, ba2, ba3⟩ := row4 h0
    clear h0
    go_wp2_with fail
    refine (cQ _ (HE.out.below HK.out.hb).tabs).mono ?_
    rintro e w12 ⟨rfl, bb⟩
    have HK1 := hid (HK.out.below bb)
    clear bb HK 
    have HK := hid HK1.out
    clear HK1
    clear bb10 bb11 bb12 bb13 ba0 ba1 ba2 ba3
    go_upto_region 15 with fail
    have HK1 : Hid (KV ((w12.heap.size, ⟨pk, pn, false, ⟨#[]⟩⟩) :: [(bp, ⟨pk, pn, false, ⟨#[]⟩⟩), (bt, ⟨0, 0, false, ⟨#[]⟩⟩), (bs, ⟨0, 0, false, ⟨#[]⟩⟩), (bb1, ⟨1, n, false, ⟨#[]⟩⟩), (ba, ⟨1, m, false, ⟨#[]⟩⟩)]) w (w12.alloc (.cells #[.int .u8 pk, .int .i64 pn, .bool false, .string ⟨#[]⟩] 23))) := HK.out.box ⟨pk, pn, false, ⟨#[]⟩⟩
    generalize World.alloc w12 _ = w13 at *
    obtain ⟨bq, hbq⟩ : ∃ bq, w12.heap.size = bq := ⟨_, rfl⟩
    rw [hbq] at HK1 ⊢
    clear hbq HK
    have HK := hid HK1.out
    clear HK1
    have h0 : w13.heap[bp]? = some (.cells #[.int .u8 pk, .int .i64 pn, .bool false, .string ⟨#[]⟩] 23 (0, 0)) := HK.out.got (bp, ⟨pk, pn, false, ⟨#[]⟩⟩) (by simp)
    obtain ⟨bp0, bp1, bp2, bp3⟩ := row4 h0
    clear h0
    have h0 : w13.heap[bq]? = some (.cells #[.int .u8 pk, .int .i64 pn, .bool false, .string ⟨#[]⟩] 23 (0, 0)) := HK.out.got (bq, ⟨pk, pn, false, ⟨#[]⟩⟩) (by simp)
    obtain ⟨bq0, bq1, bq2, bq3⟩ := row4 h0
    clear h0
    have h0 : w13.heap[ba]? = some (.cells #[.int .u8 1, .int .i64 m, .bool false, .string ⟨#[]⟩] 23 (0, 0)) := HK.out.got (ba, ⟨1, m, false, ⟨#[]⟩⟩) (by simp)
    obtain ⟨ba0, ba1, ba2, ba3⟩ := row4 h0
    clear h0
    have h0 : w13.heap[bb1]? = some (.cells #[.int .u8 1, .int .i64 n, .bool false, .string ⟨#[]⟩] 23 (0, 0)) := HK.out.got (bb1, ⟨1, n, false, ⟨#[]⟩⟩) (by simp)
    obtain ⟨bb10, bb11, bb12, bb13⟩ := row4 h0
    clear h0
    go_wp2_with fail
    refine (cD _ (HE.out.below HK.out.hb).tabs).mono ?_
    rintro e w14 ⟨rfl, bb⟩
    have HK1 := hid (HK.out.below bb)
    clear bb HK 
    have HK := hid HK1.out
    clear HK1
    clear ba0 ba1 ba2 ba3 bb10 bb11 bb12 bb13
    clear bp0 bp1 bp2 bp3 bq0 bq1 bq2 bq3
    go_upto_region 18 with fail
    have HK1 : Hid (KV ((w14.heap.size, ⟨1, q, false, ⟨#[]⟩⟩) :: [(bq, ⟨pk, pn, false, ⟨#[]⟩⟩), (bp, ⟨pk, pn, false, ⟨#[]⟩⟩), (bt, ⟨0, 0, false, ⟨#[]⟩⟩), (bs, ⟨0, 0, false, ⟨#[]⟩⟩), (bb1, ⟨1, n, false, ⟨#[]⟩⟩), (ba, ⟨1, m, false, ⟨#[]⟩⟩)]) w (w14.alloc (.cells #[.int .u8 1, .int .i64 q, .bool false, .string ⟨#[]⟩] 23))) := HK.out.box ⟨1, q, false, ⟨#[]⟩⟩
    generalize World.alloc w14 _ = w15 at *
    obtain ⟨bd2, hbd2⟩ : ∃ bd2, w14.heap.size = bd2 := ⟨_, rfl⟩
    rw [hbd2] at HK1 ⊢
    clear hbd2 HK
    have HK := hid HK1.out
    clear HK1
    have h0 : w15.heap[ba]? = some (.cells #[.int .u8 1, .int .i64 m, .bool false, .string ⟨#[]⟩] 23 (0, 0)) := HK.out.got (ba, ⟨1, m, false, ⟨#[]⟩⟩) (by simp)
    obtain ⟨ba0, ba1, ba2, ba3⟩ := row4 h0
    clear h0
    have h0 : w15.heap[bb1]? = some (.cells #[.int .u8 1, .int .i64 n, .bool false, .string ⟨#[]⟩] 23 (0, 0)) := HK.out.got (bb1, ⟨1, n, false, ⟨#[]⟩⟩) (by simp)
    obtain ⟨bb10, bb11, bb12, bb13⟩ := row4 h0
    clear h0
    go_wp2_with fail
    refine (cM _ (HE.out.below HK.out.hb).tabs).mono ?_
    rintro e w16 ⟨rfl, bb⟩
    have HK1 := hid (HK.out.below bb)
    clear bb HK 
    have HK := hid HK1.out
    clear HK1
    clear ba0 ba1 ba2 ba3 bb10 bb11 bb12 bb13
    go_upto_region 19 with fail
    have HK1 : Hid (KV ((w16.heap.size, ⟨1, r, false, ⟨#[]⟩⟩) :: [(bd2, ⟨1, q, false, ⟨#[]⟩⟩), (bq, ⟨pk, pn, false, ⟨#[]⟩⟩), (bp, ⟨pk, pn, false, ⟨#[]⟩⟩), (bt, ⟨0, 0, false, ⟨#[]⟩⟩), (bs, ⟨0, 0, false, ⟨#[]⟩⟩), (bb1, ⟨1, n, false, ⟨#[]⟩⟩), (ba, ⟨1, m, false, ⟨#[]⟩⟩)]) w (w16.alloc (.cells #[.int .u8 1, .int .i64 r, .bool false, .string ⟨#[]⟩] 23))) := HK.out.box ⟨1, r, false, ⟨#[]⟩⟩
    generalize World.alloc w16 _ = w17 at *
    obtain ⟨br, hbr⟩ : ∃ br, w16.heap.size = br := ⟨_, rfl⟩
    rw [hbr] at HK1 ⊢
    clear hbr HK
    have HK := hid HK1.out
    clear HK1
    have h0 : w17.heap[br]? = some (.cells #[.int .u8 1, .int .i64 r, .bool false, .string ⟨#[]⟩] 23 (0, 0)) := HK.out.got (br, ⟨1, r, false, ⟨#[]⟩⟩) (by simp)
    obtain ⟨br0, br1, br2, br3⟩ := row4 h0
    clear h0
    go_wp2_with fail
    refine (cF _).mono ?_
    rintro e ww ⟨rfl, rfl⟩
    go_wp2_with fail
    refine (cG _).mono ?_
    rintro e ww2 ⟨rfl, rfl⟩
    obtain ⟨wz, hwz⟩ : ∃ wz : World, wz = wz := ⟨w, rfl⟩
    clear hwz wz
    clear br0 br1 br2 br3
    have HK1 := hid HK.out
    clear HK
    have HK := hid HK1.out
    clear HK1
    have h0 : ww2.heap[bd2]? = some (.cells #[.int .u8 1, .int .i64 q, .bool false, .string ⟨#[]⟩] 23 (0, 0)) := HK.out.got (bd2, ⟨1, q, false, ⟨#[]⟩⟩) (by simp)
    obtain ⟨bd20, bd21, bd22, bd23⟩ := row4 h0
    clear h0
    have h0 : ww2.heap[bb1]? = some (.cells #[.int .u8 1, .int .i64 n, .bool false, .string ⟨#[]⟩] 23 (0, 0)) := HK.out.got (bb1, ⟨1, n, false, ⟨#[]⟩⟩) (by simp)
    obtain ⟨bb10, bb11, bb12, bb13⟩ := row4 h0
    clear h0
    go_wp2_with fail
    refine (cX _ (HE.out.below HK.out.hb).tabs).mono ?_
    rintro e v1 ⟨rfl, bb⟩
    have HK1 := hid (HK.out.below bb)
    clear bb HK 
    have HK := hid HK1.out
    clear HK1
    clear bd20 bd21 bd22 bd23 bb10 bb11 bb12 bb13
    go_upto_region 26 with fail
    have HK1 : Hid (KV ((v1.heap.size, ⟨1, x, false, ⟨#[]⟩⟩) :: [(br, ⟨1, r, false, ⟨#[]⟩⟩), (bd2, ⟨1, q, false, ⟨#[]⟩⟩), (bq, ⟨pk, pn, false, ⟨#[]⟩⟩), (bp, ⟨pk, pn, false, ⟨#[]⟩⟩), (bt, ⟨0, 0, false, ⟨#[]⟩⟩), (bs, ⟨0, 0, false, ⟨#[]⟩⟩), (bb1, ⟨1, n, false, ⟨#[]⟩⟩), (ba, ⟨1, m, false, ⟨#[]⟩⟩)]) w (v1.alloc (.cells #[.int .u8 1, .int .i64 x, .bool false, .string ⟨#[]⟩] 23))) := HK.out.box ⟨1, x, false, ⟨#[]⟩⟩
    generalize World.alloc v1 _ = v2 at *
    obtain ⟨bx, hbx⟩ : ∃ bx, v1.heap.size = bx := ⟨_, rfl⟩
    rw [hbx] at HK1 ⊢
    clear hbx HK
    have HK := hid HK1.out
    clear HK1
    have h0 : v2.heap[bx]? = some (.cells #[.int .u8 1, .int .i64 x, .bool false, .string ⟨#[]⟩] 23 (0, 0)) := HK.out.got (bx, ⟨1, x, false, ⟨#[]⟩⟩) (by simp)
    obtain ⟨bx0, bx1, bx2, bx3⟩ := row4 h0
    clear h0
    have h0 : v2.heap[br]? = some (.cells #[.int .u8 1, .int .i64 r, .bool false, .string ⟨#[]⟩] 23 (0, 0)) := HK.out.got (br, ⟨1, r, false, ⟨#[]⟩⟩) (by simp)
    obtain ⟨br0, br1, br2, br3⟩ := row4 h0
    clear h0
    go_wp2_with fail
    refine (cY _ (HE.out.below HK.out.hb).tabs).mono ?_
    rintro e v3 ⟨rfl, bb⟩
    have HK1 := hid (HK.out.below bb)
    clear bb HK 
    have HK := hid HK1.out
    clear HK1
    clear bx0 bx1 bx2 bx3 br0 br1 br2 br3
    go_upto_region 27 with fail
    have HK1 : Hid (KV ((v3.heap.size, ⟨1, m, false, ⟨#[]⟩⟩) :: [(bx, ⟨1, x, false, ⟨#[]⟩⟩), (br, ⟨1, r, false, ⟨#[]⟩⟩), (bd2, ⟨1, q, false, ⟨#[]⟩⟩), (bq, ⟨pk, pn, false, ⟨#[]⟩⟩), (bp, ⟨pk, pn, false, ⟨#[]⟩⟩), (bt, ⟨0, 0, false, ⟨#[]⟩⟩), (bs, ⟨0, 0, false, ⟨#[]⟩⟩), (bb1, ⟨1, n, false, ⟨#[]⟩⟩), (ba, ⟨1, m, false, ⟨#[]⟩⟩)]) w (v3.alloc (.cells #[.int .u8 1, .int .i64 m, .bool false, .string ⟨#[]⟩] 23))) := HK.out.box ⟨1, m, false, ⟨#[]⟩⟩
    generalize World.alloc v3 _ = v4 at *
    obtain ⟨by1, hby1⟩ : ∃ by1, v3.heap.size = by1 := ⟨_, rfl⟩
    rw [hby1] at HK1 ⊢
    clear hby1 HK
    have HK := hid HK1.out
    clear HK1
    have h0 : v4.heap[by1]? = some (.cells #[.int .u8 1, .int .i64 m, .bool false, .string ⟨#[]⟩] 23 (0, 0)) := HK.out.got (by1, ⟨1, m, false, ⟨#[]⟩⟩) (by simp)
    obtain ⟨by10, by11, by12, by13⟩ := row4 h0
    clear h0
    have h0 : v4.heap[ba]? = some (.cells #[.int .u8 1, .int .i64 m, .bool false, .string ⟨#[]⟩] 23 (0, 0)) := HK.out.got (ba, ⟨1, m, false, ⟨#[]⟩⟩) (by simp)
    obtain ⟨ba0, ba1, ba2, ba3⟩ := row4 h0
    clear h0
    go_wp2_with fail
    go_ret
    exact ⟨rfl, HK.out.hb⟩

theorem rings_law (m n : Int) (w : World) (hm : In m) (hn : In n) (hE : VEnv w) :
    Calls Tryd.prog 9 #[.int .i64 m, .int .i64 n] w fun e w' => e = .returned (.bool true) ∧ Below w.heap.size w w' := by
  by_cases hs : In (m + n)
  · by_cases h0 : n = 0
    · exact rings_y_zero m n w hE hm hn hs h0
    · by_cases h1 : m = -9223372036854775808 ∧ n = -1
      · exact rings_y_over m n w hE hm hn hs h1.1 h1.2
      · exact rings_y_norm m n w hE hm hn hs h0 h1
  · by_cases h0 : n = 0
    · exact rings_n_zero m n w hE hm hn hs h0
    · by_cases h1 : m = -9223372036854775808 ∧ n = -1
      · exact rings_n_over m n w hE hm hn hs h1.1 h1.2
      · exact rings_n_norm m n w hE hm hn hs h0 h1
end Go.Proofs.YtohdifffdgoaaaaDoor
