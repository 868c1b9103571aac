/- ValueOrder: for every input the call returns true and the arguments read as before. Condition: the listed package-level variables read as the program's text lays them (the card ties them). -/
import Derived.Test.YtohdifffdgoaaaaDoorCards
import Derived.Test.YtohdifffdgoaaaaDoorTie
import Derived.Test.YtohdifffdgoaaaaDoorVEnv2
import Derived.Test.YtohdifffdgoaaaaDoorLOrdV
import Derived.ProofKit
import Derived.SizedLaws
import Derived.OpenShut
import Derived.ShutString
import Derived.Carry
namespace Go.Proofs.YtohdifffdgoaaaaDoor
namespace valueOrderDone
open Go.ChangeShapes Go.WideShapes Go.ChangeAt Go.RowKit
open Go.ChangeMaps (open_string shut_string)
open Go.Shelf

theorem laid_met (os : Os) (args : Array Value) : laidMet Tryd.prog Rows.valueOrderRow.laid ((laidWorld os).forCall (fun _ _ => 0) ⟨#[], args, []⟩).memory :=
  laidMet_of_run' 8 (by kernel_rfl) (by kernel_rfl)
theorem witness_row (os : Os) {H : Type} (enc : TypeId × Value → H) :
    (OpenSpec.ofChange Rows.valueOrderSpec).preRow enc Tryd.prog Tryd.f8 Rows.valueOrderRow.domain false Rows.valueOrderRow.laid ((laidWorld os).forCall (fun _ _ => 0) ⟨#[], #[.agg #[.int .u8 0, .int .i64 0, .bool false, .string ⟨#[]⟩], .agg #[.int .u8 0, .int .i64 0, .bool false, .string ⟨#[]⟩], .agg #[.int .u8 0, .int .i64 0, .bool false, .string ⟨#[]⟩]], []⟩).memory #[.agg #[.int .u8 0, .int .i64 0, .bool false, .string ⟨#[]⟩], .agg #[.int .u8 0, .int .i64 0, .bool false, .string ⟨#[]⟩], .agg #[.int .u8 0, .int .i64 0, .bool false, .string ⟨#[]⟩]] := by
  have hw : (DataW.whole enc Tryd.prog ((laidWorld os).forCall (fun _ _ => 0) ⟨#[], #[.agg #[.int .u8 0, .int .i64 0, .bool false, .string ⟨#[]⟩], .agg #[.int .u8 0, .int .i64 0, .bool false, .string ⟨#[]⟩], .agg #[.int .u8 0, .int .i64 0, .bool false, .string ⟨#[]⟩]], []⟩).memory Tryd.f8.params.toList (OpenSpec.ofChange Rows.valueOrderSpec).vars false (#[.agg #[.int .u8 0, .int .i64 0, .bool false, .string ⟨#[]⟩], .agg #[.int .u8 0, .int .i64 0, .bool false, .string ⟨#[]⟩], .agg #[.int .u8 0, .int .i64 0, .bool false, .string ⟨#[]⟩]] : Array Value).toList 8).map (fun x => (x.1, x.2.1)) =
      some ([.agg [.lit (.int .u8 0), .lit (.int .i64 0), .lit (.bool false), .lit (.string [])], .agg [.lit (.int .u8 0), .lit (.int .i64 0), .lit (.bool false), .lit (.string [])], .agg [.lit (.int .u8 0), .lit (.int .i64 0), .lit (.bool false), .lit (.string [])]], []) := by kernel_rfl
  obtain ⟨⟨x1, x2, x3⟩, hx, hx1⟩ := Option.map_eq_some_iff.1 hw
  simp only [Prod.mk.injEq] at hx1
  obtain ⟨rfl, rfl⟩ := hx1
  exact OpenSpec.preRow_of_cond 8 hx (by kernel_rfl) (fun k hk => by cases hk) (by kernel_rfl) (laid_met os _)

set_option maxRecDepth 100000 in
set_option maxHeartbeats 2000000 in
theorem lifted (os : Os) (started : os.Started) (H : Type) (enc : TypeId × Value → H) (F : Stop.Interp) :
    ReturnsInHanded {} Tryd.checked os 8 .any ((OpenSpec.ofChange Rows.valueOrderSpec).preRow enc Tryd.prog Tryd.f8 Rows.valueOrderRow.domain false Rows.valueOrderRow.laid) (((OpenSpec.ofChange Rows.valueOrderSpec).at F).post enc Tryd.prog Tryd.f8 false true false false) := by
  refine returnsInHanded_of_row (C := Tryd.checked) (s := (OpenSpec.ofChange Rows.valueOrderSpec)) own started (by kernel_rfl) Tryd.func8
    (witness_row_atRef (enc := enc) (C := Tryd.checked) false (laidWorld os) #[.agg #[.int .u8 0, .int .i64 0, .bool false, .string ⟨#[]⟩], .agg #[.int .u8 0, .int .i64 0, .bool false, .string ⟨#[]⟩], .agg #[.int .u8 0, .int .i64 0, .bool false, .string ⟨#[]⟩]] rfl (by kernel_rfl) (by kernel_rfl) (by kernel_rfl) (witness_row os enc)) ?_
  intro W base args ds gs before hval0 hW _ _ hsz hL _ _
  have hval : ∀ (j : Nat) t v, Tryd.f8.params[j]? = some t → args[j]? = some v → Value.okWide Tryd.prog W .any base t v := hval0
  have hW' := hW
  obtain ⟨p, q, hA0, hV, rfl, hfz, hnd⟩ := hW
  have hA : DataW.TrodAll enc Tryd.prog W 0 (fun _ => true) true Tryd.f8.params.toList args.toList ds p := hA0
  rw [Tryd.params8] at hA hval hsz
  obtain ⟨v0, vs0, d0, ds0, p0, q0, hargs, rfl, rfl, h0, r0⟩ := trodAll_cons hA
  obtain ⟨v1, vs1, d1, ds1, p1, q1, rfl, rfl, rfl, h1, r1⟩ := trodAll_cons r0
  obtain ⟨v2, vs2, d2, ds2, p2, q2, rfl, rfl, rfl, h2, r2⟩ := trodAll_cons r1
  obtain ⟨rfl, rfl, rfl⟩ := trodAll_nil r2
  obtain rfl : args = #[v0, v1, v2] := by cases args; simp_all
  obtain ⟨rfl, rfl⟩ := trodVars_none hV
  obtain ⟨k0, n0, b0, s0, rfl, rfl, rfl, wk0, wn0, w0⟩ := open_value (hval 0 23 v0 rfl rfl) h0
  have z0 : s0.size ≤ 140737488351232 := by
    have := sized_value hsz (j := 0) rfl rfl
    simpa [reachBytes] using this
  obtain ⟨k1, n1, b1, s1, rfl, rfl, rfl, wk1, wn1, w1⟩ := open_value (hval 1 23 v1 rfl rfl) h1
  have z1 : s1.size ≤ 140737488351232 := by
    have := sized_value hsz (j := 1) rfl rfl
    simpa [reachBytes] using this
  obtain ⟨k2, n2, b2, s2, rfl, rfl, rfl, wk2, wn2, w2⟩ := open_value (hval 2 23 v2 rfl rfl) h2
  have z2 : s2.size ≤ 140737488351232 := by
    have := sized_value hsz (j := 2) rfl rfl
    simpa [reachBytes] using this
  clear hA0 hval0
  simp only [List.append_nil] at hW'
  refine (ord_law k0 n0 b0 s0 k1 n1 b1 s1 k2 n2 b2 s2 W (bd_i wn0) z0 (bd_i wn1) z1 (bd_i wn2) z2 (env_valueOrderRow hL)).mono fun e W' ⟨he, bel⟩ => ?_
  subst he
  exact ⟨_, rfl, _, _, _, [], [], [], hW', trodAll_mk1 (shut_bool Tryd.underlying4 _), (trodAll_cons_mk (shut_value wk0 wn0 w0) (trodAll_cons_mk (shut_value wk1 wn1 w1) (trodAll_cons_mk (shut_value wk2 wn2 w2) trodAll_mk0))), rfl, bel.frame _, fun h => by cases h⟩

theorem said : Rows.ValueOrderSaid :=
  OpenClaim.holds_of_cond 8 Tryd.f8 rfl rfl rfl rfl rfl rfl rfl ⟨rfl, rfl, rfl, rfl, rfl⟩ rfl rfl rfl rfl rfl (by kernel_rfl) Tryd.func8 (by kernel_rfl)
    (of_decide_eq_true (by kernel_rfl)) (by unfold Func.isWrapper; rw [if_neg (of_decide_eq_false (by kernel_rfl))]; exact ⟨rfl, rfl⟩)
    (fun os started H enc _ F => by rw [OpenClaim.pre_eq_preRow]; exact lifted os started H enc F)

/-- No parameter wants a stand-in; the program's own looks are what the card says. -/
theorem plain (f : FuncId) (fn : Func) (hf : Tryd.pinned.checked.prog.funcNamed "tollgate/tollgatelaw09.ValueOrder" = some f) (hfn : Tryd.pinned.checked.prog.funcs[f]? = some fn) :
    true = Tryd.pinned.checked.prog.looks [] ∧ ∀ (j : Nat) t, fn.params[j]? = some t → Tryd.pinned.checked.prog.wantsStandIn t = false := by
  obtain rfl : f = 8 := Option.some.inj ((show Tryd.prog.funcNamed "tollgate/tollgatelaw09.ValueOrder" = some 8 by kernel_rfl).symm.trans hf) |>.symm
  obtain rfl : fn = Tryd.f8 := (Option.some.inj (Tryd.func8.symm.trans hfn)).symm
  refine ⟨by kernel_rfl, fun j t ht => ?_⟩
  rw [Tryd.params8] at ht
  have hm := Array.mem_of_getElem? ht
  have hall : ([23, 23, 23].all fun u => !Tryd.prog.wantsStandIn u) = true := by kernel_rfl
  exact (show Tryd.prog.wantsStandIn t = false by simpa using List.all_eq_true.1 hall t (by simpa using hm))

end valueOrderDone
/-- THE CARD -/
theorem valueOrder_card : Rows.ValueOrderCardSaid :=
  Claim7.holds_tied_plain_at .later [] _ _ _ _ valueOrderDone.said (fun _ h => by cases h) (by kernel_rfl) (fun _ h => by cases h) valueOrder_row_tie rfl ⟨rfl, rfl⟩ (by kernel_rfl) rfl valueOrderDone.plain (by kernel_rfl)
end Go.Proofs.YtohdifffdgoaaaaDoor
