/- RouteFields (its Upto form: arguments of bulk at most 1048576): for every input the call returns true and the arguments read as before. Condition: the listed package-level variables read as the program's text lays them (the card ties them); the arguments hold together at most 1048576 values and letters. -/
import Derived.Test.YtohkomndapngjaaGreatDoorCards
import Derived.Test.YtohkomndapngjaaGreatDoorTie
import Derived.Test.YtohkomndapngjaaGreatDoorRC34
import Derived.Test.YtohkomndapngjaaGreatDoorRC37
import Derived.ProofKit
import Derived.SizedLaws
import Derived.OpenShut
import Derived.ShutString
import Derived.Carry
namespace Go.Proofs.YtohkomndapngjaaGreatDoor
set_option maxRecDepth 100000
set_option maxHeartbeats 16000000
namespace routeFieldsDone
open Go.ChangeShapes Go.WideShapes Go.ChangeAt Go.RowKit
open Go.ChangeMaps (open_string shut_string)
open Go.Shelf
theorem laid_met (os:Os) (args:Array Value):laidMet Tryz.prog Rows.routeFieldsUptoRow.laid ((laidWorld os).forCall (fun _ _=>0) ⟨#[],args,[]⟩).memory:=
 laidMet_of_run' 8 (by kernel_rfl) (by kernel_rfl)
theorem witness_row (os:Os) {H:Type}(enc:TypeId×Value→H):
  (Rows.OpenSpec.upto Rows.routeFieldsSpec).preRow enc Tryz.prog Tryz.f3 Rows.routeFieldsUptoRow.domain false Rows.routeFieldsUptoRow.laid ((laidWorld os).forCall (fun _ _=>0) ⟨#[],#[.string ⟨#[]⟩,.slice none 0 0,.slice none 0 0,.int .i64 0],[]⟩).memory #[.string ⟨#[]⟩,.slice none 0 0,.slice none 0 0,.int .i64 0]:=by
 have hw:(DataW.whole enc Tryz.prog ((laidWorld os).forCall (fun _ _=>0) ⟨#[],#[.string ⟨#[]⟩,.slice none 0 0,.slice none 0 0,.int .i64 0],[]⟩).memory Tryz.f3.params.toList (Rows.OpenSpec.upto Rows.routeFieldsSpec).vars false (#[.string ⟨#[]⟩,.slice none 0 0,.slice none 0 0,.int .i64 0]:Array Value).toList 8).map (fun x=>(x.1,x.2.1))=
   some ([.lit (.string []),.nil,.nil,.lit (.int .i64 0)],[]):=by kernel_rfl
 obtain ⟨⟨x1,x2,x3⟩,hx,hx1⟩:=Option.map_eq_some_iff.1 hw;simp only [Prod.mk.injEq] at hx1;obtain ⟨rfl,rfl⟩:=hx1;exact OpenSpec.preRow_of_cond 8 hx (by kernel_rfl) (fun k hk=>by cases hk;kernel_rfl) (by kernel_rfl) (laid_met os _)
theorem lifted (os:Os) (started:os.Started) (H:Type) (enc:TypeId×Value→H) (F:Stop.Interp):
  ReturnsInHanded {} Tryz.checked os 3 .any ((Rows.OpenSpec.upto Rows.routeFieldsSpec).preRow enc Tryz.prog Tryz.f3 Rows.routeFieldsUptoRow.domain false Rows.routeFieldsUptoRow.laid) (((Rows.OpenSpec.upto Rows.routeFieldsSpec).at F).post enc Tryz.prog Tryz.f3 false true false false):=by
 refine returnsInHanded_of_row (C:=Tryz.checked) (s:=(Rows.OpenSpec.upto Rows.routeFieldsSpec)) own started (by kernel_rfl) Tryz.func3
  (witness_row_atRef (enc:=enc) (C:=Tryz.checked) false (laidWorld os) #[.string ⟨#[]⟩,.slice none 0 0,.slice none 0 0,.int .i64 0] rfl (by kernel_rfl) (by kernel_rfl) (by kernel_rfl) (witness_row os enc)) ?_
 intro W base args ds gs before hval0 hW _ hcond hsz hL hSO _;have hval:∀(j:Nat) t v,Tryz.f3.params[j]? =some t→args[j]? =some v→Value.okWide Tryz.prog W .any base t v:=hval0;have hW':=hW;obtain ⟨p,q,hA0,hV,rfl,hfz,hnd⟩:=hW;have hA:DataW.TrodAll enc Tryz.prog W 0 (fun _=>true) true Tryz.f3.params.toList args.toList ds p:=hA0;rw [Tryz.params3] at hA hval hsz;obtain ⟨v0,vs0,d0,ds0,p0,q0,hargs,rfl,rfl,h0,r0⟩:=trodAll_cons hA;obtain ⟨v1,vs1,d1,ds1,p1,q1,rfl,rfl,rfl,h1,r1⟩:=trodAll_cons r0;obtain ⟨v2,vs2,d2,ds2,p2,q2,rfl,rfl,rfl,h2,r2⟩:=trodAll_cons r1;obtain ⟨v3,vs3,d3,ds3,p3,q3,rfl,rfl,rfl,h3,r3⟩:=trodAll_cons r2;obtain ⟨rfl,rfl,rfl⟩:=trodAll_nil r3;obtain rfl:args= #[v0,v1,v2,v3]:=by cases args;simp_all
 obtain ⟨rfl,rfl⟩:=trodVars_none hV;obtain ⟨s0,rfl,rfl,rfl,w0⟩:=open_string Tryz.underlying9 (hval 0 9 v0 rfl rfl) h0;have z0:s0.size≤140737488351232:=by
  have:=sized_string hsz (j:=0) (t:=9) rfl rfl;simpa [reachBytes] using this
 obtain ⟨l1,i1,m1,n1⟩:=open_jsons (hval 1 22 v1 rfl rfl) h1;obtain ⟨l2,i2,m2⟩:=open_texts (hval 2 23 v2 rfl rfl) h2;obtain ⟨a3,rfl,rfl,rfl,w3⟩:=open_int Tryz.underlying3 (hval 3 3 v3 rfl rfl) h3;have hc:Rows.uptoBulkAll _≤1048576:=of_decide_eq_true (hcond _ rfl);simp only [List.append_nil,Rows.uptoBulkAll,Rows.uptoBulk,Array.length_toList] at hc;have hc1:Rows.uptoBulk d1≤1048576:=by omega
 have hc2:Rows.uptoBulk d2≤1048576:=by omega
 clear hA0 hval0;simp only [List.append_nil] at hW';refine (fields_law s0 l1 v1 l2 v2 a3 W z0 i1 m1 n1.1 i2 m2.1 (bd_i w3) (Nat.le_trans n1.2 hc1) (Nat.le_trans m2.2 hc2) (env_routeFieldsUptoRow hL hSO)).mono fun e W' ⟨he,bel⟩=> ?_
 subst he;exact ⟨_,rfl,_,_,_,[],_,[],hW',trodAll_mk1 (shut_bool Tryz.underlying4 _),(trodAll_cons_mk (shut_string Tryz.underlying9 w0) (trodAll_cons_mk (Below.trod laidOut (by kernel_rfl) (of_decide_eq_true (by kernel_rfl)) h1 bel (fun x hx=>hW'.lt x (by simp [hx]))) (trodAll_cons_mk (Below.trod laidOut (by kernel_rfl) (of_decide_eq_true (by kernel_rfl)) h2 bel (fun x hx=>hW'.lt x (by simp [hx]))) (trodAll_cons_mk (shut_int Tryz.underlying3 w3) trodAll_mk0)))),rfl,bel.frame _,fun h=>by cases h⟩
theorem said:Rows.RouteFieldsUptoSaid:=
 OpenClaim.holds_of_cond 3 Tryz.f3 rfl rfl rfl rfl rfl rfl rfl ⟨rfl,rfl,rfl,rfl,rfl⟩ rfl rfl rfl rfl rfl (by kernel_rfl) Tryz.func3 routeFieldsUpto_joined
  (of_decide_eq_true (by kernel_rfl)) (by unfold Func.isWrapper;rw [if_neg (of_decide_eq_false (by kernel_rfl))];exact ⟨rfl,rfl⟩)
  (fun os started H enc _ F=>by rw [OpenClaim.pre_eq_preRow];exact lifted os started H enc F)
theorem plain (f:FuncId) (fn:Func) (hf:Tryz.pinned.checked.prog.funcNamed "tollgate/tollgatelaw30.RouteFields" =some f) (hfn:Tryz.pinned.checked.prog.funcs[f]? =some fn):
  true=Tryz.pinned.checked.prog.looks []∧∀(j:Nat) t,fn.params[j]? =some t→Tryz.pinned.checked.prog.wantsStandIn t=false:=by
 obtain rfl:f=3:=Option.some.inj ((show Tryz.prog.funcNamed "tollgate/tollgatelaw30.RouteFields" =some 3 by kernel_rfl).symm.trans hf) |>.symm;obtain rfl:fn=Tryz.f3:=(Option.some.inj (Tryz.func3.symm.trans hfn)).symm;refine ⟨by kernel_rfl,fun j t ht=> ?_⟩;rw [Tryz.params3] at ht;have hm:=Array.mem_of_getElem? ht;have hall:([9,22,23,3].all fun u=> !Tryz.prog.wantsStandIn u)=true:=by kernel_rfl
 exact (show Tryz.prog.wantsStandIn t=false by simpa using List.all_eq_true.1 hall t (by simpa using hm))
end routeFieldsDone
theorem routeFields_card:Rows.RouteFieldsUptoCardSaid:=
 Claim7.holds_tied_plain_at .later [] _ _ _ _ routeFieldsDone.said (fun _ h=>by cases h) (by kernel_rfl) (fun _ h=>by cases h) routeFieldsUpto_row_tie rfl ⟨rfl,rfl⟩ (by kernel_rfl) rfl routeFieldsDone.plain (by kernel_rfl)
end Go.Proofs.YtohkomndapngjaaGreatDoor

