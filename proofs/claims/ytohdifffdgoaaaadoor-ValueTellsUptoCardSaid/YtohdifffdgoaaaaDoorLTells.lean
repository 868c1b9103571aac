/- ValueTells (its Upto form: arguments of bulk at most 1048576): for every input the call returns true and the arguments read as before. Condition: the listed package-level variables read as the program's text lays them (the card ties them); the arguments hold together at most 1048576 values and letters. -/
import Derived.Test.YtohdifffdgoaaaaDoorCards
import Derived.Test.YtohdifffdgoaaaaDoorTie
import Derived.Test.YtohdifffdgoaaaaDoorVEnv2
import Derived.Test.YtohdifffdgoaaaaDoorLTellsW
import Derived.ProofKit
import Derived.SizedLaws
import Derived.OpenShut
import Derived.ShutString
import Derived.Carry
namespace Go.Proofs.YtohdifffdgoaaaaDoor
namespace valueTellsDone
open Go.ChangeShapes Go.WideShapes Go.ChangeAt Go.RowKit
open Go.ChangeMaps (open_string shut_string)
open Go.Shelf

theorem laid_met (os : Os) (args : Array Value) : laidMet Tryd.prog Rows.valueTellsUptoRow.laid ((laidWorld os).forCall (fun _ _ => 0) ⟨#[], args, []⟩).memory :=
  laidMet_of_run' 8 (by kernel_rfl) (by kernel_rfl)
theorem witness_row (os : Os) {H : Type} (enc : TypeId × Value → H) :
    (Rows.OpenSpec.upto Rows.valueTellsSpec).preRow enc Tryd.prog Tryd.f5 Rows.valueTellsUptoRow.domain false Rows.valueTellsUptoRow.laid ((laidWorld os).forCall (fun _ _ => 0) ⟨#[], #[.agg #[.int .u8 0, .int .i64 0, .bool false, .string ⟨#[]⟩], .agg #[.int .u8 0, .int .i64 0, .bool false, .string ⟨#[]⟩], .int .u8 0, .string ⟨#[]⟩], []⟩).memory #[.agg #[.int .u8 0, .int .i64 0, .bool false, .string ⟨#[]⟩], .agg #[.int .u8 0, .int .i64 0, .bool false, .string ⟨#[]⟩], .int .u8 0, .string ⟨#[]⟩] := by
  have hw : (DataW.whole enc Tryd.prog ((laidWorld os).forCall (fun _ _ => 0) ⟨#[], #[.agg #[.int .u8 0, .int .i64 0, .bool false, .string ⟨#[]⟩], .agg #[.int .u8 0, .int .i64 0, .bool false, .string ⟨#[]⟩], .int .u8 0, .string ⟨#[]⟩], []⟩).memory Tryd.f5.params.toList (Rows.OpenSpec.upto Rows.valueTellsSpec).vars false (#[.agg #[.int .u8 0, .int .i64 0, .bool false, .string ⟨#[]⟩], .agg #[.int .u8 0, .int .i64 0, .bool false, .string ⟨#[]⟩], .int .u8 0, .string ⟨#[]⟩] : Array Value).toList 8).map (fun x => (x.1, x.2.1)) =
      some ([.agg [.lit (.int .u8 0), .lit (.int .i64 0), .lit (.bool false), .lit (.string [])], .agg [.lit (.int .u8 0), .lit (.int .i64 0), .lit (.bool false), .lit (.string [])], .lit (.int .u8 0), .lit (.string [])], []) := by kernel_rfl
  obtain ⟨⟨x1, x2, x3⟩, hx, hx1⟩ := Option.map_eq_some_iff.1 hw
  simp only [Prod.mk.injEq] at hx1
  obtain ⟨rfl, rfl⟩ := hx1
  exact OpenSpec.preRow_of_cond 8 hx (by kernel_rfl) (fun k hk => by cases hk; kernel_rfl) (by kernel_rfl) (laid_met os _)

set_option maxRecDepth 100000 in
set_option maxHeartbeats 2000000 in
theorem lifted (os : Os) (started : os.Started) (H : Type) (enc : TypeId × Value → H) (F : Stop.Interp) :
    ReturnsInHanded {} Tryd.checked os 5 .any ((Rows.OpenSpec.upto Rows.valueTellsSpec).preRow enc Tryd.prog Tryd.f5 Rows.valueTellsUptoRow.domain false Rows.valueTellsUptoRow.laid) (((Rows.OpenSpec.upto Rows.valueTellsSpec).at F).post enc Tryd.prog Tryd.f5 false true false false) := by
  refine returnsInHanded_of_row (C := Tryd.checked) (s := (Rows.OpenSpec.upto Rows.valueTellsSpec)) own started (by kernel_rfl) Tryd.func5
    (witness_row_atRef (enc := enc) (C := Tryd.checked) false (laidWorld os) #[.agg #[.int .u8 0, .int .i64 0, .bool false, .string ⟨#[]⟩], .agg #[.int .u8 0, .int .i64 0, .bool false, .string ⟨#[]⟩], .int .u8 0, .string ⟨#[]⟩] rfl (by kernel_rfl) (by kernel_rfl) (by kernel_rfl) (witness_row os enc)) ?_
  intro W base args ds gs before hval0 hW _ hcond hsz hL _ _
  have hval : ∀ (j : Nat) t v, Tryd.f5.params[j]? = some t → args[j]? = some v → Value.okWide Tryd.prog W .any base t v := hval0
  have hW' := hW
  obtain ⟨p, q, hA0, hV, rfl, hfz, hnd⟩ := hW
  have hA : DataW.TrodAll enc Tryd.prog W 0 (fun _ => true) true Tryd.f5.params.toList args.toList ds p := hA0
  rw [Tryd.params5] at hA hval hsz
  obtain ⟨v0, vs0, d0, ds0, p0, q0, hargs, rfl, rfl, h0, r0⟩ := trodAll_cons hA
  obtain ⟨v1, vs1, d1, ds1, p1, q1, rfl, rfl, rfl, h1, r1⟩ := trodAll_cons r0
  obtain ⟨v2, vs2, d2, ds2, p2, q2, rfl, rfl, rfl, h2, r2⟩ := trodAll_cons r1
  obtain ⟨v3, vs3, d3, ds3, p3, q3, rfl, rfl, rfl, h3, r3⟩ := trodAll_cons r2
  obtain ⟨rfl, rfl, rfl⟩ := trodAll_nil r3
  obtain rfl : args = #[v0, v1, v2, v3] := by cases args; simp_all
  obtain ⟨rfl, rfl⟩ := trodVars_none hV
  obtain ⟨k0, n0, b0, s0, rfl, rfl, rfl, wk0, wn0, w0⟩ := open_value (hval 0 23 v0 rfl rfl) h0
  have z0 : s0.size ≤ 140737488351232 := by
    have := sized_value hsz (j := 0) rfl rfl
    simpa [reachBytes] using this
  obtain ⟨k1, n1, b1, s1, rfl, rfl, rfl, wk1, wn1, w1⟩ := open_value (hval 1 23 v1 rfl rfl) h1
  have z1 : s1.size ≤ 140737488351232 := by
    have := sized_value hsz (j := 1) rfl rfl
    simpa [reachBytes] using this
  obtain ⟨a2, rfl, rfl, rfl, w2⟩ := open_int Tryd.underlying5 (hval 2 5 v2 rfl rfl) h2
  obtain ⟨s3, rfl, rfl, rfl, w3⟩ := open_string Tryd.underlying9 (hval 3 9 v3 rfl rfl) h3
  have z3 : s3.size ≤ 140737488351232 := by
    have := sized_string hsz (j := 3) (t := 9) rfl rfl
    simpa [reachBytes] using this
  have hc : Rows.uptoBulkAll _ ≤ 1048576 := of_decide_eq_true (hcond _ rfl)
  simp only [List.append_nil, Rows.uptoBulkAll, Rows.uptoBulk, Array.length_toList] at hc
  have hc' : s0.size + s1.size + s3.size ≤ 1048576 := by
    have es0 : s0.data.size = s0.size := rfl
    have es1 : s1.data.size = s1.size := rfl
    have es3 : s3.data.size = s3.size := rfl
    omega
  clear hA0 hval0
  simp only [List.append_nil] at hW'
  refine (tells_law k0 n0 b0 s0 k1 n1 b1 s1 a2 s3 W (bd_i wn0) z0 (bd_i wn1) z1 (bd_y w2) z3 (env_valueTellsUptoRow hL) hc').mono fun e W' ⟨he, bel⟩ => ?_
  subst he
  exact ⟨_, rfl, _, _, _, [], [], [], hW', trodAll_mk1 (shut_bool Tryd.underlying4 _), (trodAll_cons_mk (shut_value wk0 wn0 w0) (trodAll_cons_mk (shut_value wk1 wn1 w1) (trodAll_cons_mk (shut_int Tryd.underlying5 w2) (trodAll_cons_mk (shut_string Tryd.underlying9 w3) trodAll_mk0)))), rfl, bel.frame _, fun h => by cases h⟩

theorem said : Rows.ValueTellsUptoSaid :=
  OpenClaim.holds_of_cond 5 Tryd.f5 rfl rfl rfl rfl rfl rfl rfl ⟨rfl, rfl, rfl, rfl, rfl⟩ rfl rfl rfl rfl rfl (by kernel_rfl) Tryd.func5 (by kernel_rfl)
    (of_decide_eq_true (by kernel_rfl)) (by unfold Func.isWrapper; rw [if_neg (of_decide_eq_false (by kernel_rfl))]; exact ⟨rfl, rfl⟩)
    (fun os started H enc _ F => by rw [OpenClaim.pre_eq_preRow]; exact lifted os started H enc F)

/-- No parameter wants a stand-in; the program's own looks are what the card says. -/
theorem plain (f : FuncId) (fn : Func) (hf : Tryd.pinned.checked.prog.funcNamed "tollgate/tollgatelaw09.ValueTells" = some f) (hfn : Tryd.pinned.checked.prog.funcs[f]? = some fn) :
    true = Tryd.pinned.checked.prog.looks [] ∧ ∀ (j : Nat) t, fn.params[j]? = some t → Tryd.pinned.checked.prog.wantsStandIn t = false := by
  obtain rfl : f = 5 := Option.some.inj ((show Tryd.prog.funcNamed "tollgate/tollgatelaw09.ValueTells" = some 5 by kernel_rfl).symm.trans hf) |>.symm
  obtain rfl : fn = Tryd.f5 := (Option.some.inj (Tryd.func5.symm.trans hfn)).symm
  refine ⟨by kernel_rfl, fun j t ht => ?_⟩
  rw [Tryd.params5] at ht
  have hm := Array.mem_of_getElem? ht
  have hall : ([23, 23, 5, 9].all fun u => !Tryd.prog.wantsStandIn u) = true := by kernel_rfl
  exact (show Tryd.prog.wantsStandIn t = false by simpa using List.all_eq_true.1 hall t (by simpa using hm))

end valueTellsDone
/-- THE CARD -/
theorem valueTells_card : Rows.ValueTellsUptoCardSaid :=
  Claim7.holds_tied_plain_at .later [] _ _ _ _ valueTellsDone.said (fun _ h => by cases h) (by kernel_rfl) (fun _ h => by cases h) valueTellsUpto_row_tie rfl ⟨rfl, rfl⟩ (by kernel_rfl) rfl valueTellsDone.plain (by kernel_rfl)
end Go.Proofs.YtohdifffdgoaaaaDoor
