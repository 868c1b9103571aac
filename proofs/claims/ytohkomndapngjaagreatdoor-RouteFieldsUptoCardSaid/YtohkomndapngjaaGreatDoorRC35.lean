/- Plain: an object that is printed, and the same turned round: both are read back. -/
import Derived.Test.YtohkomndapngjaaGreatDoorRC34
import Derived.Test.YtohkomndapngjaaGreatDoorRC24
namespace Go.Proofs.YtohkomndapngjaaGreatDoor
set_option maxRecDepth 100000
set_option maxHeartbeats 16000000
open J (T V)
namespace J
theorem num_T:∀ {t:T},t.num→numT t
 | .nil,_=>trivial
 | .cons _ _ _ _ _ _ _,⟨h1,h2,h3⟩=>⟨h1,num_T h2,num_T h3⟩
theorem itoa_pos (n:Int) (h:InI n):1≤(Lib.itoa n).length:=by
 have h1:=num_itoa n h [] (fun c r e=>by cases e);cases hd:Lib.itoa n with
 | nil=>rw [hd] at h1;cases h1
 | cons=>simp
end J
namespace R
open J
theorem show_pos (x:V) (h:InI x.n):1≤x.show.length:=by
 unfold V.show;split
 · decide
 split
 · split<;>decide
 split
 · exact itoa_pos x.n h
 split
 · simp [quoteL]
 · simp
theorem len_elem {obj first:Bool}{k:Nat}{b:Bool}{n:Int}{s:ByteArray}{l:T}{m:List ByteArray}{r:T}{names:List ByteArray}:(⟨k,b,n,s,l,m⟩:V).show.length+(showT obj false r (names.drop 1)).length≤(showT obj first (.cons k b n s l m r) names).length:=by
 have e:showT obj first (.cons k b n s l m r) names=(if first then [] else [44])++((if obj then quoteL (names.headD ⟨#[]⟩).data.toList++ [58] else [])++((⟨k,b,n,s,l,m⟩:V).show++showT obj false r (names.drop 1))):=rfl
 rw [e];simp only [List.length_append];omega
theorem len_le:∀(t:T) (obj first:Bool) (names:List ByteArray),numT t→t.length≤(showT obj first t names).length
 | .nil,_,_,_,_=>Nat.zero_le _
 | .cons k b n s l m r,obj,first,names,⟨h1,_,h3⟩=>by
   have h4:=len_elem (obj:=obj) (first:=first) (k:=k) (b:=b) (n:=n) (s:=s) (l:=l) (m:=m) (r:=r) (names:=names)
   have h5:=show_pos ⟨k,b,n,s,l,m⟩ h1
   have h6:=len_le r obj false (names.drop 1) h3
   show r.length+1≤_
   omega
theorem inner_len (x:V) (hk:x.k=6) (h:numT x.l):x.l.length≤x.show.length:=by
 have e:x.show=123::(showT true true x.l x.ns++ [125]):=by
  unfold V.show;rw [hk];rfl
 rw [e];have:=len_le x.l true true x.ns h;simp only [List.length_cons,List.length_append,List.length_nil];omega
theorem flat_len {k:Nat}{b:Bool}{n:Int}{s:ByteArray}{len:Nat}{ns:List ByteArray}(h:flat k b n s len ns=true) (hk:k=6):ns.length=len:=by
 subst hk;simp only [flat,listOk,Bool.and_eq_true,Bool.or_eq_true,beq_iff_eq,bne_iff_ne,ne_eq] at h;have:=h.2.1.2.2;simpa using this
theorem may_even:∀(t:T) (obj first:Bool) (names:List ByteArray),mayT t=true→numT t→(showT obj first t names).length≤65536→evenT t
 | .nil,_,_,_,_,_,_=>trivial
 | .cons k b n s l m r,obj,first,names,hm,⟨h1,h2,h3⟩,hl=>by
   have h4:=len_elem (obj:=obj) (first:=first) (k:=k) (b:=b) (n:=n) (s:=s) (l:=l) (m:=m) (r:=r) (names:=names)
   have hm:(flat k b n s l.length m&&mayT l&&mayT r)=true:=hm
   simp only [Bool.and_eq_true] at hm
   refine ⟨fun hk=>⟨flat_len hm.1.1 hk,?_⟩,may_even r obj false (names.drop 1) hm.2 h3 (by omega)⟩
   have:=inner_len ⟨k,b,n,s,l,m⟩ hk h2
   simp only at this
   omega
theorem obj_even (x:V) (hm:x.may=true) (hn:numT x.l) (hl:x.show.length≤65536):even x:=fun hk=>by
 have e:x.show=123::(showT true true x.l x.ns++ [125]):=by
  unfold V.show;rw [hk];rfl
 unfold V.may at hm;rw [Bool.and_eq_true] at hm;have h2:(showT true true x.l x.ns).length≤65536:=by
  rw [e] at hl;simp only [List.length_cons,List.length_append,List.length_nil] at hl;omega
 exact ⟨flat_len hm.1 hk,Nat.le_trans (len_le x.l true true x.ns hn) h2,may_even x.l true true x.ns hm.2 hn h2⟩
theorem print_ok {x:V}{s:List UInt8}(h:x.print=(s,0)):check x=0∧s=x.show∧x.show.length≤65536:=by
 unfold V.print at h;split at h
 · rename_i hc;split at h
   · simp at h
   · simp only [Prod.mk.injEq,and_true] at h;exact ⟨hc,h.symm,by omega⟩
 · rename_i hc;simp only [Prod.mk.injEq] at h;exact absurd h.2 hc
theorem ok_print {x:V}(hc:check x=0) (hl:x.show.length≤65536):x.print=(x.show,0):=by
 unfold V.print;rw [if_pos hc,if_neg (by omega)]
theorem fill_len:∀(K:Nat) (t:T) (d d':D) (ns:List ByteArray),evenT t→go K d t ns=some d'→d'.patch.length≤d.patch.length+t.length*65536
 | K,.nil,d,d',ns,_,h=>by cases h;simp [T.length]
 | K,.cons k b n s l m r,d,d',ns,⟨he,hr⟩,h=>by
   unfold go at h;cases hs:step K d (ns.headD ⟨#[]⟩) ⟨k,b,n,s,l,m⟩ with
   | none=>rw [hs] at h;cases h
   | some d1=>
     rw [hs] at h;have ih:=fill_len K r d1 d' (ns.drop 1) hr h;have h1:d1.patch.length≤d.patch.length+65536:=by
      unfold step at hs;cases hf:look K (ns.headD ⟨#[]⟩) with
      | none=>rw [hf] at hs;cases hs
      | some f=>
        rw [hf] at hs;simp only at hs;split at hs
        · rename_i hk;have hki:=kind_to K f (look_mem hf).1;have:=put_len (by rcases hki with h|h<;>omega) hs;simp only at this;split at this
          · have:=(he (by rcases hki with h|h<;>omega)).2;omega
          · omega
        · cases hs
     show _≤_+(r.length+1)*65536;rw [Nat.succ_mul];omega
theorem read_told (path:ByteArray) {x:V}(he:even x):(told (read false true path (x,0,0))∧(Sh.of (read false true path (x,0,0))).K≠1∧(Sh.of (read false true path (x,0,0))).ps.length≤1000000000000)∨(read false true path (x,0,0)= .deploy∧path.data.toList= [47,109,111,100,101,108,115]):=by
 cases hf:find path with
 | none=>
   rw [read_none hf];exact Or.inl ⟨trivial,by decide,by simp [Sh.of]⟩
 | some f=>
   by_cases h0:f.post=0
   · rw [read_meth hf (fun h=>by cases h.1) (Or.inr h0)];exact Or.inl ⟨trivial,by decide,by simp [Sh.of]⟩
   · by_cases h1:f.post=1
     · exact Or.inr ⟨read_dep hf rfl rfl h1,find_deploy hf h1⟩
     · rw [read_rest hf rfl rfl h1 h0];rw [if_neg (by simp)];left;cases hfi:fill f.post (d0 f.post) x with
       | none=>exact ⟨trivial,(show (0:Int)≠1 by decide),(show (0:Nat)≤1000000000000 from Nat.zero_le _)⟩
       | some d=>
         refine ⟨trivial,?_,?_⟩
         · show (f.post:Int)≠1;omega
         · show d.patch.length≤_;unfold fill at hfi;split at hfi
           · rename_i hk;obtain ⟨-,h2,h3⟩:=he hk;cases hg:go f.post (d0 f.post) x.l x.ns with
             | none=>rw [hg] at hfi;cases hfi
             | some d1=>
               rw [hg] at hfi;simp only at hfi;split at hfi
               · cases hfi;have:=fill_len f.post x.l (d0 f.post) d x.ns h3 hg;have h0:(d0 f.post).patch.length=0:=rfl;have:x.l.length*65536≤65536*65536:=Nat.mul_le_mul_right _ h2;omega
               · cases hfi
           · cases hfi
end R
open J in
theorem body_of (x:V) (hk:x.k=6) (hc:check x=0) (hn:InI x.n) (hN:numT x.l) (hns:∀a∈x.ns,a.size≤1000000000000) (a z:List UInt8) (ha:∀c∈a,J.blank c=true) (hz:∀c∈z,J.blank c=true) (hsk:∀l,K.X.skip (a++123::l)=123::l) (h60:∀c l,a=c::l→c≠60)
   (b:ByteArray) (hb:b.data.toList=a++(x.show++z)) (hl:(a++(x.show++z)).length≤65536):Body b x:=by
 have hm:x.may=true∧x.deep≤16:=by
   unfold check at hc;by_cases h:x.may=true
   · rw [if_pos h] at hc;refine ⟨h,?_⟩;by_cases h2:16<x.deep
     · rw [if_pos h2] at hc;cases hc
     · omega
   · rw [if_neg h] at hc;cases hc
 have e:x.show=123::(showT true true x.l x.ns++ [125]):=by
   unfold V.show;rw [hk];rfl
 refine ⟨by rw [hb];exact parse_back x hm.1 hm.2 hn hN a z ha hz hl,R.obj_even x hm.1 hN (by simp only [List.length_append] at hl;omega),hns,by rw [←hb] at hl;exact hl,?_⟩;rw [hb,e];cases a with
 | nil=>exact ⟨_,_,123,rfl,by decide,hsk _⟩
 | cons c l=>exact ⟨_,_,c,rfl,h60 c l rfl,hsk _⟩
open J in
theorem law_plain {tq uq:T}{nt nu:List ByteArray}{s:ByteArray}(h1:nt.length=tq.length) (h2:nu.length=uq.length) (hp:(⟨6,false,0,⟨#[]⟩,tq.app uq,nt++nu⟩:V).print=(s.data.toList,0)) (hs:s.size≤5000) (hN:(tq.app uq).num) (hns:∀a∈nt++nu,a.size≤1000000000000):
   ∃u:ByteArray,(⟨6,false,0,⟨#[]⟩,uq.app tq,nu++nt⟩:V).print=(u.data.toList,0)∧u.size≤5000∧Body s ⟨6,false,0,⟨#[]⟩,tq.app uq,nt++nu⟩∧Body (⟨#[32]⟩++u++⟨#[10]⟩) ⟨6,false,0,⟨#[]⟩,uq.app tq,nu++nt⟩∧Body u ⟨6,false,0,⟨#[]⟩,uq.app tq,nu++nt⟩∧∀path,R.read false true path (⟨6,false,0,⟨#[]⟩,uq.app tq,nu++nt⟩,0,0)=R.read false true path (⟨6,false,0,⟨#[]⟩,tq.app uq,nt++nu⟩,0,0):=by
 obtain ⟨hc,hsh, -⟩:=R.print_ok hp;obtain ⟨hc2, -, -, -, -,hun⟩:=R.turn_check false 0 ⟨#[]⟩ tq uq nt nu hc;have hlen:=R.turn_len false 0 ⟨#[]⟩ tq uq nt nu h1 h2;have hsl:s.data.toList.length=s.size:=(Lib.size_eq s).symm;have hl1:(⟨6,false,0,⟨#[]⟩,tq.app uq,nt++nu⟩:V).show.length≤5000:=by rw [←hsh,hsl];exact hs
 have hNT:=num_T hN;have hNU:numT (uq.app tq):=by rw [R.num_app] at hNT ⊢;exact ⟨hNT.2,hNT.1⟩
 have hI:InI 0:=by unfold InI;omega
 have hns2:∀a∈nu++nt,a.size≤1000000000000:=fun a ha=>hns a (by rw [List.mem_append] at ha ⊢;exact ha.symm)
 refine ⟨⟨(⟨6,false,0,⟨#[]⟩,uq.app tq,nu++nt⟩:V).show.toArray⟩,R.ok_print hc2 (by omega),?_,?_,?_,?_,fun path=> ?_⟩
 · show (⟨6,false,0,⟨#[]⟩,uq.app tq,nu++nt⟩:V).show.length≤5000;omega
 · exact body_of _ rfl hc hI hNT hns [] [] (fun c h=>by cases h) (fun c h=>by cases h) (fun l=>rfl) (fun c l h=>by cases h) s (by rw [List.append_nil];exact hsh) (by rw [List.append_nil];show _≤_;simp only [List.nil_append];omega)
 · refine body_of _ rfl hc2 hI hNU hns2 [32] [10] (fun c h=>by simp only [List.mem_singleton] at h;subst h;rfl) (fun c h=>by simp only [List.mem_singleton] at h;subst h;rfl) (fun l=>rfl) (fun c l h=>by cases h;decide) _ ?_ (by simp only [List.length_append,List.length_cons,List.length_nil];omega);simp [ByteArray.data_append]
 · exact body_of _ rfl hc2 hI hNU hns2 [] [] (fun c h=>by cases h) (fun c h=>by cases h) (fun l=>rfl) (fun c l h=>by cases h) _ (by rw [List.append_nil];rfl) (by rw [List.append_nil];show _≤_;simp only [List.nil_append];omega)
 · exact (R.read_turn false true path false 0 ⟨#[]⟩ tq uq nt nu h1 h2 hun (V.loose_refl _) (V.loose_refl _)).symm
end Go.Proofs.YtohkomndapngjaaGreatDoor

