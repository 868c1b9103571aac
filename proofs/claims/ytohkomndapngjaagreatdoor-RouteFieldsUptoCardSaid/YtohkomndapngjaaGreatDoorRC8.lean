/- A region that draws its order: a condition S on the world that is asked as long as number k has not come up; a load may be taken first by it if number k waits for that load. -/
import Derived.ProofKit
import Derived.Deep.RegionHeld3
namespace Go.Proofs.YtohkomndapngjaaGreatDoor
set_option maxRecDepth 100000
set_option maxHeartbeats 16000000
open Go.RowKit
section
variable {P:Program}{ops:Array Oper}{Q:Exit→Act→World→Prop}{md:Region.Mode}{S:World→Prop}{k:Nat}
def wpTill (P:Program) (md:Region.Mode) (ops:Array Oper) (Q:Exit→Act→World→Prop) (S:World→Prop) (k:Nat):Nat→Array Bool→Act→World→Prop
 | 0,listed,a,w=>Region.ready md ops listed= []∧Q .normal a w
 | fuel+1,listed,a,w=>
   (Region.ready md ops listed= []→Q .normal a w)∧
   ∀i∈Region.ready md ops listed,wpOp P ops Q i (fun a' w'=>((listed.setIfInBounds i true).getD k true=false→S w')∧wpTill P md ops Q S k fuel (listed.setIfInBounds i true) a' w') a w
theorem wpAny_of_till:∀(fuel:Nat) (listed:Array Bool) (a:Act) (w:World),wpTill P md ops Q S k fuel listed a w→wpAny P md ops Q fuel listed a w
 | 0,_,_,_,h=>h
 | fuel+1,_,_,_,h=>⟨h.1,fun i hi=>wpOp_mono (fun a' w' h'=>wpAny_of_till fuel _ a' w' h'.2) (h.2 i hi)⟩
def chain (md:Region.Mode) (ops:Array Oper) (D:List Nat) (i k:Nat):Bool:=
 D.contains k&&D.all fun j=>j==i||match ops[j]? with
  | some o=>o.after.any fun e=>Region.binds md e&&D.contains e.on
  | none=>false
theorem chain_not {D:List Nat}{i k:Nat}(h:chain md ops D i k=true) {listed:Array Bool}(hD:∀d∈D,listed.getD d false=false) {j:Nat}(hj:j∈Region.ready md ops listed) (hji:j≠i):j ∉ D:=by
 intro hjD;unfold chain at h;rw [Bool.and_eq_true,List.all_eq_true] at h;have h1:=h.2 j hjD;obtain ⟨_,o,ho,hall⟩:=mem_ready.1 hj;rw [ho] at h1;simp only [Bool.or_eq_true,beq_iff_eq,hji,false_or] at h1;obtain ⟨e,he,hb⟩:=Array.any_eq_true'.1 h1;rw [Bool.and_eq_true] at hb;have h2:=hall e he hb.1;rw [hD e.on (by simpa using hb.2)] at h2;cases h2
theorem wpTill_first {i:Nat}{oi:Oper}{v:Value}(hi:ops[i]? =some oi) (hsel:∀(j:Nat) (o:Oper) cs b,ops[j]? =some o→o.op≠ .select cs b)
   (hQ:∀c a w,Q (.panic c) (a.put oi.dst v) w→Q (.panic c) a w) {D:List Nat}(hc:chain md ops D i k=true) (hki:k≠i):
   ∀(fuel:Nat) (listed:Array Bool) (a:Act) (w:World),
     (∀j oj,ops[j]? =some oj→j≠i→listed.getD j true=false→(∀e∈oj.after,Region.binds md e=true→e.on≠i)→oi.apart ops oj=true)→
     (∀d∈D,listed.getD d false=false)→listed.getD k true=false→
     i∈Region.ready md ops listed→YieldsIf P ops S oi v a→S w→
     wpTill P md ops Q S k fuel (listed.setIfInBounds i true) (a.put oi.dst v) w→wpTill P md ops Q S k (fuel+1) listed a w:=by
 intro fuel;induction fuel with
 | zero=>
   intro listed a w _ hD hk hr hy hS H;refine ⟨fun h=>(by rw [h] at hr;cases hr),fun j hj=> ?_⟩;by_cases hji:j=i
   · subst hji;exact hy.wpOp hi hS ⟨fun _=>hS,H⟩
   · have:=ready_mono hj hji;rw [H.1] at this;cases this
 | succ fuel ih=>
   intro listed a w hfree hD hk hr hy hS H;refine ⟨fun h=>(by rw [h] at hr;cases hr),fun j hj=> ?_⟩;by_cases hji:j=i
   · subst hji;exact hy.wpOp hi hS ⟨fun _=>hS,H⟩
   · have hjD:=chain_not hc hD hj hji;have h1:=H.2 j (ready_mono hj hji);obtain ⟨hjun,oj,hoj,hall⟩:=mem_ready.1 hj;have hnot:∀e∈oj.after,Region.binds md e=true→e.on≠i:=fun e he hb heq=>by
      have h1:=hall e he hb;have h0:=(mem_ready.1 hr).1;rw [heq] at h1;rcases Nat.lt_or_ge i listed.size with h'|h'
      · simp [h'] at h0 h1;rw [h0] at h1;cases h1
      · simp [Array.getElem?_eq_none h'] at h1
     have h2:=wpOp_putIf hoj (hfree j oj hoj hji hjun hnot) (fun cs b=>hsel i oi cs b hi) (fun cs b=>hsel j oj cs b hoj) hQ hy h1;have hfree':∀k ok,ops[k]? =some ok→k≠i→(listed.setIfInBounds j true).getD k true=false→
        (∀e∈ok.after,Region.binds md e=true→e.on≠i)→oi.apart ops ok=true:=fun k ok hk hki hun hno=>by
      refine hfree k ok hk hki ?_ hno;by_cases hjk:j=k
      · subst hjk;exact hjun
      · rw [getD_set_ne true hjk] at hun;exact hun
     have hkD:k∈D:=by
      unfold chain at hc;rw [Bool.and_eq_true] at hc;simpa using hc.1
     have hjk:j≠k:=fun e=>by subst e;exact hjD hkD
     have hk':(listed.setIfInBounds j true).getD k true=false:=by rw [getD_set_ne true hjk];exact hk
     have hD':∀d∈D,(listed.setIfInBounds j true).getD d false=false:=fun d hd=>by
      rw [getD_set_ne false (show j≠d from fun e=>by subst e;exact hjD hd)];exact hD d hd
     have hk2:((listed.setIfInBounds i true).setIfInBounds j true).getD k true=false:=by
      rw [Array.setIfInBounds_comm _ _ (Ne.symm hji),getD_set_ne true (Ne.symm hki)];exact hk'
     refine wpOp_mono (fun a' w' h3=>⟨fun _=>h3.2.1 hk2,ih (listed.setIfInBounds j true) a' w' hfree' hD' hk' (ready_mono hr (Ne.symm hji)) h3.1 (h3.2.1 hk2) ?_⟩) h2;rw [Array.setIfInBounds_comm _ _ hji];exact h3.2.2
theorem wpTill_load (i:Nat) (D:List Nat) {oi:Oper}{v:Value}{fuel:Nat}{listed:Array Bool}{a:Act}{w:World}(hi:ops[i]? =some oi)
  (hs:Region.noSelect ops=true) (hf:Region.free md ops listed i=true) (hr:(Region.ready md ops listed).contains i=true)
  (hc:(chain md ops D i k&&(k !=i)&&(D.all fun d=> !listed.getD d false)&& !listed.getD k true)=true)
  (hQ:∀c a w,Q (.panic c) (a.put oi.dst v) w→Q (.panic c) a w) (hy:YieldsIf P ops S oi v a) (hS:S w)
  (h:wpTill P md ops Q S k fuel (listed.setIfInBounds i true) (a.put oi.dst v) w):wpTill P md ops Q S k (fuel+1) listed a w:=by
 simp only [Bool.and_eq_true,bne_iff_ne,ne_eq,List.all_eq_true,Bool.not_eq_true'] at hc;exact wpTill_first hi (Region.noSelect_spec hs) hQ hc.1.1.1 hc.1.1.2 fuel listed a w (Region.free_spec hi hf) hc.1.2 hc.2 (by simpa using hr) hy hS h
theorem wpTill_any (i:Nat) {oi:Oper}{v:Value}{fuel:Nat}{listed:Array Bool}{a:Act}{w:World}(hi:ops[i]? =some oi)
   (hs:Region.noSelect ops=true) (hf:Region.free md ops listed i=true) (hr:(Region.ready md ops listed).contains i=true) (hki:(k !=i)=true)
   (hQ:∀c a w,Q (.panic c) (a.put oi.dst v) w→Q (.panic c) a w) (hy:Yields P ops oi v a) (hS:listed.getD k true=false→S w)
   (h:wpTill P md ops Q S k fuel (listed.setIfInBounds i true) (a.put oi.dst v) w):wpTill P md ops Q S k (fuel+1) listed a w:=by
 have hkn:k≠i:=by simpa using hki
 have hsel:=Region.noSelect_spec hs;have hfree:=Region.free_spec hi hf;have hr':i∈Region.ready md ops listed:=by simpa using hr
 clear hf hr;revert listed a w;induction fuel with
 | zero=>
   intro listed a w hy hS H hfree hr;refine ⟨fun h=>(by rw [h] at hr;cases hr),fun j hj=> ?_⟩;by_cases hji:j=i
   · subst hji;exact hy.wpOp hi ⟨fun hk=>hS (by rw [getD_set_ne true (Ne.symm hkn)] at hk;exact hk),H⟩
   · have:=ready_mono hj hji;rw [H.1] at this;cases this
 | succ fuel ih=>
   intro listed a w hy hS H hfree hr;refine ⟨fun h=>(by rw [h] at hr;cases hr),fun j hj=> ?_⟩;by_cases hji:j=i
   · subst hji;exact hy.wpOp hi ⟨fun hk=>hS (by rw [getD_set_ne true (Ne.symm hkn)] at hk;exact hk),H⟩
   · have h1:=H.2 j (ready_mono hj hji);obtain ⟨hjun,oj,hoj,hall⟩:=mem_ready.1 hj;have hnot:∀e∈oj.after,Region.binds md e=true→e.on≠i:=fun e he hb heq=>by
      have h1:=hall e he hb;have h0:=(mem_ready.1 hr).1;rw [heq] at h1;rcases Nat.lt_or_ge i listed.size with h'|h'
      · simp [h'] at h0 h1;rw [h0] at h1;cases h1
      · simp [Array.getElem?_eq_none h'] at h1
     have h2:=wpOp_put hoj (hfree j oj hoj hji hjun hnot) (fun cs b=>hsel i oi cs b hi) (fun cs b=>hsel j oj cs b hoj) hQ hy h1;have hfree':∀k ok,ops[k]? =some ok→k≠i→(listed.setIfInBounds j true).getD k true=false→
        (∀e∈ok.after,Region.binds md e=true→e.on≠i)→oi.apart ops ok=true:=fun k ok hk hki hun hno=>by
      refine hfree k ok hk hki ?_ hno;by_cases hjk:j=k
      · subst hjk;exact hjun
      · rw [getD_set_ne true hjk] at hun;exact hun
     refine wpOp_mono (fun a' w' h3=> ?_) h2;have hk3:(listed.setIfInBounds j true).getD k true=false→S w':=fun hk=>h3.2.1 (by rw [Array.setIfInBounds_comm _ _ (Ne.symm hji),getD_set_ne true (Ne.symm hkn)];exact hk)
     exact ⟨hk3,ih h3.1 hk3 (by rw [Array.setIfInBounds_comm _ _ hji];exact h3.2.2) hfree' (ready_mono hr (Ne.symm hji))⟩
theorem wpTill_done {listed:Array Bool}{a:Act}{w:World}(hr:Region.ready md ops listed= []) (h:Q .normal a w):∀fuel,wpTill P md ops Q S k fuel listed a w
 | 0=>⟨hr,h⟩
 | _+1=>⟨fun _=>h,by rw [hr];simp⟩
def AllTill (P:Program) (md:Region.Mode) (ops:Array Oper) (Q:Exit→Act→World→Prop) (S:World→Prop) (k:Nat) (fuel:Nat) (listed:Array Bool) (a:Act) (w:World) (rs:List Nat):Prop:=
 ∀i∈rs,wpOp P ops Q i (fun a' w'=>((listed.setIfInBounds i true).getD k true=false→S w')∧wpTill P md ops Q S k fuel (listed.setIfInBounds i true) a' w') a w
theorem AllTill.nil {fuel:Nat}{listed:Array Bool}{a:Act}{w:World}:AllTill P md ops Q S k fuel listed a w []:=fun _ h=>by cases h
theorem AllTill.cons {fuel:Nat}{listed:Array Bool}{a:Act}{w:World}{i:Nat}{o:Oper}{rs:List Nat}(ho:ops[i]? =some o)
   (h:∀K':Act→World→Prop,Shut (∀a w,((listed.setIfInBounds i true).getD k true=false→S w)→wpTill P md ops Q S k fuel (listed.setIfInBounds i true) a w→K' a w)→if Region.wanted o (yielded ops a.tmps)=true then Oper.wp P o a w K' Q else K' (a.put o.dst undef) w)
   (hs:AllTill P md ops Q S k fuel listed a w rs):AllTill P md ops Q S k fuel listed a w (i::rs):=fun j hj=>by
 rcases List.mem_cons.1 hj with rfl|hj
 · exact wpOp_step ho (fun K' hK=>h K' (fun a w hS hW=>hK a w ⟨hS,hW⟩))
 · exact hs j hj
theorem AllTill.consH {fuel:Nat}{listed:Array Bool}{a:Act}{w:World}{i:Nat}{o:Oper}{rs:List Nat}(ho:ops[i]? =some o)
  (h:∀K':Act→World→Prop,Shut (∀a w,((listed.setIfInBounds i true).getD k true=false→S w)→(((listed.setIfInBounds i true).getD k true=false→S w)→wpTill P md ops Q S k fuel (listed.setIfInBounds i true) a w)→K' a w)→if Region.wanted o (yielded ops a.tmps)=true then Oper.wp P o a w K' Q else K' (a.put o.dst undef) w)
  (hs:AllTill P md ops Q S k fuel listed a w rs):AllTill P md ops Q S k fuel listed a w (i::rs):=
 AllTill.cons ho (fun K' hK=>h K' (fun a w hS hW=>hK a w hS (hW hS))) hs
theorem wpTill_ready {rs:List Nat}{fuel:Nat}{listed:Array Bool}{a:Act}{w:World}(hr:Region.ready md ops listed=rs) (hne:rs≠ [])
 (h:AllTill P md ops Q S k fuel listed a w rs):wpTill P md ops Q S k (fuel+1) listed a w:=⟨fun h0=>absurd (hr ▸ h0) hne,hr ▸ h⟩
theorem tillA (i:Nat) {oi:Oper}{v:Value}{fuel:Nat}{listed:Array Bool}{a:Act}{w:World}(hS:listed.getD k true=false→S w) (h:wpTill P md ops Q S k fuel (listed.setIfInBounds i true) (a.put oi.dst v) w)
  (hi:ops[i]? =some oi:=by rfl) (hs:Region.noSelect ops=true:=by kernel_rfl) (hf:Region.free md ops listed i=true:=by kernel_rfl) (hr:(Region.ready md ops listed).contains i=true:=by kernel_rfl) (hki:(k !=i)=true:=by kernel_rfl)
  (hQ:∀c a w,Q (.panic c) (a.put oi.dst v) w→Q (.panic c) a w:=by exact fun _ _ _ h=>h) (hw:Region.wanted oi (yielded ops a.tmps)=true:=by rfl) (hy:∀w,(execOp a.eval oi).run P w= .ok (.value v) w:=by intro w;go_simp;try with_reducible rfl):wpTill P md ops Q S k (fuel+1) listed a w:=
 wpTill_any i hi hs hf hr hki hQ (Or.inl ⟨hw,hy⟩) hS h
theorem tillB (i:Nat) {oi:Oper}{v:Value}{fuel:Nat}{listed:Array Bool}{a:Act}{w:World}(hS:listed.getD k true=false→S w) (hy:∀w,(execOp a.eval oi).run P w= .ok (.value v) w) (h:wpTill P md ops Q S k fuel (listed.setIfInBounds i true) (a.put oi.dst v) w)
  (hi:ops[i]? =some oi:=by rfl) (hs:Region.noSelect ops=true:=by kernel_rfl) (hf:Region.free md ops listed i=true:=by kernel_rfl) (hr:(Region.ready md ops listed).contains i=true:=by kernel_rfl) (hki:(k !=i)=true:=by kernel_rfl)
  (hQ:∀c a w,Q (.panic c) (a.put oi.dst v) w→Q (.panic c) a w:=by exact fun _ _ _ h=>h) (hw:Region.wanted oi (yielded ops a.tmps)=true:=by rfl):wpTill P md ops Q S k (fuel+1) listed a w:=
 wpTill_any i hi hs hf hr hki hQ (Or.inl ⟨hw,hy⟩) hS h
theorem tillL (i:Nat) (D:List Nat) {oi:Oper}{v:Value}{fuel:Nat}{listed:Array Bool}{a:Act}{w:World}(hS:S w) (hy:∀w,S w→(execOp a.eval oi).run P w= .ok (.value v) w) (h:wpTill P md ops Q S k fuel (listed.setIfInBounds i true) (a.put oi.dst v) w)
  (hi:ops[i]? =some oi:=by rfl) (hs:Region.noSelect ops=true:=by kernel_rfl) (hf:Region.free md ops listed i=true:=by kernel_rfl) (hr:(Region.ready md ops listed).contains i=true:=by kernel_rfl) (hc:(chain md ops D i k&&(k !=i)&&(D.all fun d=> !listed.getD d false)&& !listed.getD k true)=true:=by kernel_rfl)
  (hQ:∀c a w,Q (.panic c) (a.put oi.dst v) w→Q (.panic c) a w:=by exact fun _ _ _ h=>h) (hw:Region.wanted oi (yielded ops a.tmps)=true:=by rfl):wpTill P md ops Q S k (fuel+1) listed a w:=
 wpTill_load i D hi hs hf hr hc hQ (Or.inl ⟨hw,hy⟩) hS h
theorem tillC (i:Nat) (rs:List Nat) {o:Oper}{fuel:Nat}{listed:Array Bool}{a:Act}{w:World}
  (h:∀K':Act→World→Prop,Shut (∀a w,((listed.setIfInBounds i true).getD k true=false→S w)→wpTill P md ops Q S k fuel (listed.setIfInBounds i true) a w→K' a w)→if Region.wanted o (yielded ops a.tmps)=true then Oper.wp P o a w K' Q else K' (a.put o.dst undef) w)
  (hs:AllTill P md ops Q S k fuel listed a w rs) (ho:ops[i]? =some o:=by rfl) (hr:Region.ready md ops listed=i::rs:=by kernel_rfl):wpTill P md ops Q S k (fuel+1) listed a w:=
 wpTill_ready hr (by simp) (AllTill.cons ho h hs)
theorem till1 (i:Nat) {o:Oper}{fuel:Nat}{listed:Array Bool}{a:Act}{w:World}
  (h:∀K':Act→World→Prop,Shut (∀a w,((listed.setIfInBounds i true).getD k true=false→S w)→wpTill P md ops Q S k fuel (listed.setIfInBounds i true) a w→K' a w)→if Region.wanted o (yielded ops a.tmps)=true then Oper.wp P o a w K' Q else K' (a.put o.dst undef) w)
  (ho:ops[i]? =some o:=by rfl) (hr:Region.ready md ops listed= [i]:=by kernel_rfl):wpTill P md ops Q S k (fuel+1) listed a w:=
 tillC i [] h AllTill.nil ho hr
theorem tillD (i:Nat) (rs:List Nat) {o:Oper}{fuel:Nat}{listed:Array Bool}{a:Act}{w:World}
  (h:∀K':Act→World→Prop,Shut (∀a w,((listed.setIfInBounds i true).getD k true=false→S w)→(((listed.setIfInBounds i true).getD k true=false→S w)→wpTill P md ops Q S k fuel (listed.setIfInBounds i true) a w)→K' a w)→if Region.wanted o (yielded ops a.tmps)=true then Oper.wp P o a w K' Q else K' (a.put o.dst undef) w)
  (hs:AllTill P md ops Q S k fuel listed a w rs) (ho:ops[i]? =some o:=by rfl) (hr:Region.ready md ops listed=i::rs:=by kernel_rfl):wpTill P md ops Q S k (fuel+1) listed a w:=
 wpTill_ready hr (by simp) (AllTill.consH ho h hs)
theorem tillD1 (i:Nat) {o:Oper}{fuel:Nat}{listed:Array Bool}{a:Act}{w:World}
  (h:∀K':Act→World→Prop,Shut (∀a w,((listed.setIfInBounds i true).getD k true=false→S w)→(((listed.setIfInBounds i true).getD k true=false→S w)→wpTill P md ops Q S k fuel (listed.setIfInBounds i true) a w)→K' a w)→if Region.wanted o (yielded ops a.tmps)=true then Oper.wp P o a w K' Q else K' (a.put o.dst undef) w)
  (ho:ops[i]? =some o:=by rfl) (hr:Region.ready md ops listed= [i]:=by kernel_rfl):wpTill P md ops Q S k (fuel+1) listed a w:=
 tillD i [] h AllTill.nil ho hr
theorem wp_region_till {id:Nat}{a:Act}{w:World}(S:World→Prop) (k:Nat) (hm:P.follows .mixedOrders=true)
  (h:wpTill P .any ops Q S k ops.size (Array.replicate ops.size false) a w.drew):(Code.region id ops true).wp P Q a w:=
 wp_region_any hm (wpAny_of_till _ _ _ _ h)
end
end Go.Proofs.YtohkomndapngjaaGreatDoor

