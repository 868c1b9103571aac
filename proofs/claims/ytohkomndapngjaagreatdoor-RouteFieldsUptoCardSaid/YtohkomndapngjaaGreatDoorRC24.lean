/- Plain: what is written as JSON is read back. No program in sight. -/
import Derived.Test.YtohkomndapngjaaGreatDoorRC3
import Derived.Test.YtohkomndapngjaaGreatDoorRC4
import Derived.Test.YtohkomndapngjaaGreatDoorRC6
import Derived.Test.YtohkomndapngjaaGreatDoorRC5
import Derived.Test.YtohkomndapngjaaGreatDoorRC9
import Derived.Test.YtohkomndapngjaaGreatDoorRC23
import Derived.Test.YtohkomndapngjaaGreatDoorRC19
namespace Go.Proofs.YtohkomndapngjaaGreatDoor
set_option maxRecDepth 100000
set_option maxHeartbeats 16000000
namespace J
open Go.Lib (validD itoa decDigits)
def Stop (l:List UInt8):Prop:= ∀c r,l=c::r→dig c=false
theorem dig_of (k:Nat) (h:k<10):dig (UInt8.ofNat (48+k))=true:=by
 unfold dig;rw [W.dig_ofNat k h];exact decide_eq_true (by omega)
theorem dec_digs (u:Nat):∀c∈decDigits u,dig c=true:=by
 induction u using Nat.strongRecOn with
 | ind u ih=>
   rw [decDigits];by_cases h:u<10
   · rw [dif_pos h];intro c hc;obtain rfl:=List.mem_singleton.1 hc;exact dig_of u h
   · rw [dif_neg h];intro c hc;rcases List.mem_append.1 hc with hc|hc
     · exact ih (u / 10) (by omega) c hc
     · obtain rfl:=List.mem_singleton.1 hc;exact dig_of (u % 10) (by omega)
theorem numV_snoc (l:List UInt8) (c:UInt8):numV (l++ [c])=10*numV l+(c.toNat-48):=by
 unfold numV;rw [List.foldl_append];rfl
theorem dec_val (u:Nat):numV (decDigits u)=u:=by
 induction u using Nat.strongRecOn with
 | ind u ih=>
   rw [decDigits];by_cases h:u<10
   · rw [dif_pos h];have:=numV_snoc [] (UInt8.ofNat (48+u));rw [List.nil_append] at this;rw [this,W.dig_ofNat u h];simp [numV]
   · rw [dif_neg h,numV_snoc,ih (u / 10) (by omega),W.dig_ofNat (u % 10) (by omega)];omega
theorem dec_first (u:Nat) (h1:1≤u):∃c r,decDigits u=c::r∧c≠48:=by
 induction u using Nat.strongRecOn with
 | ind u ih=>
   rw [decDigits];by_cases h:u<10
   · rw [dif_pos h];refine ⟨_,[],rfl,fun e=> ?_⟩;have:=congrArg UInt8.toNat e;rw [W.dig_ofNat u h] at this;have e48:(48:UInt8).toNat=48:=rfl;omega
   · rw [dif_neg h];obtain ⟨c,r,hc,hn⟩:=ih (u / 10) (by omega) (by omega);exact ⟨c,r++ [UInt8.ofNat (48+u % 10)],by rw [hc];rfl,hn⟩
theorem dec_zero:decDigits 0= [48]:=by rw [decDigits];rfl
theorem digs_stop {ds rest:List UInt8}(hd:∀c∈ds,dig c=true) (hs:Stop rest):(ds++rest).takeWhile dig=ds∧(ds++rest).dropWhile dig=rest:=by
 induction ds with
 | nil=>
   cases rest with
   | nil=>exact ⟨rfl,rfl⟩
   | cons c r=>
     have h:=hs c r rfl;simp [h]
 | cons d ds ih=>
   have h:=hd d (by simp);have ih:=ih (fun c hc=>hd c (by simp [hc]));simp only [List.cons_append,List.takeWhile_cons,List.dropWhile_cons,h,if_true];exact ⟨by rw [ih.1],ih.2⟩
def InI (n:Int):Prop:= -9223372036854775808≤n∧n≤9223372036854775807
theorem num_itoa (n:Int) (h:InI n) (rest:List UInt8) (hs:Stop rest):num (itoa n++rest)= .ok (n,rest):=by
 obtain ⟨h0,h1⟩:=h;unfold itoa;by_cases hn:n<0
 · rw [if_pos hn,List.cons_append,num_minus];obtain ⟨g1,g2⟩:=digs_stop (dec_digs n.natAbs) hs;rw [g1,g2];obtain ⟨c,r,hc,hc48⟩:=dec_first n.natAbs (by omega);have hv:=dec_val n.natAbs;unfold numR;rw [hc] at hv ⊢;simp only;rw [if_neg (fun e=>hc48 e.1),if_neg (fun e=>hc48 e.2),if_pos trivial,hv,if_pos (by omega)];congr 2
   omega
 · rw [if_neg hn];obtain ⟨g1,g2⟩:=digs_stop (dec_digs n.toNat) hs;have hv:=dec_val n.toNat;obtain ⟨c,r,hc,hz⟩:∃c r,decDigits n.toNat=c::r∧(c=48→r= []):=by
    by_cases h2:1≤n.toNat
    · obtain ⟨c,r,hc,hn48⟩:=dec_first n.toNat h2;exact ⟨c,r,hc,fun e=>absurd e hn48⟩
    · rw [show n.toNat=0 by omega,dec_zero];exact ⟨48,[],rfl,fun _=>rfl⟩
   have hdc:=dec_digs n.toNat c (by rw [hc];simp);have h45:c≠45:=fun e=>by subst e;exact absurd hdc (by decide)
   rw [hc] at g1 g2 hv ⊢;rw [List.cons_append,num_plain h45,←List.cons_append,g1,g2];unfold numR;simp only;rw [if_neg (fun e=>e.2 (hz e.1)),if_neg (fun e=>by cases e.1),if_neg (by simp),hv,if_pos (by omega)];congr 2
   omega
/-! ### strings -/
theorem byteJ_plainB {c:UInt8}(h1:c≠34) (h2:c≠92) (h3:32≤c.toNat):byteJ c= [c]:=by
 have e:∀k:UInt8,k.toNat<32→c≠k:=fun k hk e=>by subst e;omega
 unfold byteJ;rw [if_neg h1,if_neg h2,if_neg (e 8 (by decide)),if_neg (e 12 (by decide)),if_neg (e 10 (by decide)),if_neg (e 13 (by decide)),if_neg (e 9 (by decide)),if_neg (by omega),if_neg (by omega)]
theorem quoteIn_highB:∀(l:List UInt8),(∀c∈l,128≤c.toNat)→quoteIn l=l
 | [],_=>rfl
 | c::r,h=>by
   have hc:=h c (by simp)
   unfold quoteIn
   rw [byteJ_plainB (fun e=>by subst e;exact absurd hc (by decide)) (fun e=>by subst e;exact absurd hc (by decide)) (by omega),quoteIn_highB r (fun x hx=>h x (by simp [hx]))]
   rfl
theorem valid_cons {c:UInt8}{r:List UInt8}(hv:validD (c::r)=true):∃x k,W.headD (c::r)=(x,k,true)∧1≤k∧k≤(c::r).length∧validD ((c::r).drop k.toNat)=true:=by
 rcases W.head_cases (c::r) (by simp) with ⟨_,h2⟩|⟨x,k,h1,k1,k4,kl,h5,_⟩
 · rw [h2] at hv;cases hv
 · exact ⟨x,k,h1,by omega,by omega,by show validD ((c::r).drop k)=true;rw [←h5];exact hv⟩
theorem charB_highB {n:Nat}(hn:128≤n):∀b∈W.charB n,128≤b:=by
 unfold W.charB;rw [if_neg (by omega)];intro b hb;split at hb
 · simp only [List.mem_cons,List.not_mem_nil,or_false] at hb;omega
 · split at hb
   · simp only [List.mem_cons,List.not_mem_nil,or_false] at hb;omega
   · simp only [List.mem_cons,List.not_mem_nil,or_false] at hb;omega
theorem char_high {ch:Int}(hok:W.charOk ch=true) (h:128≤ch):∀b∈W.charL ch,128≤b.toNat:=by
 intro b hb;have hr:ch≤1114111:=by
  have:(0≤ch∧ch≤55295)∨(57344≤ch∧ch≤1114111):=by simpa only [W.charOk,Bool.or_eq_true,decide_eq_true_eq] using hok
  omega
 unfold W.charL at hb;rw [if_pos hok] at hb;have hm:b.toNat∈(W.charN ch.toNat).map UInt8.toNat:=List.mem_map_of_mem hb;rw [W.charN_toNat ch.toNat (by omega)] at hm;exact charB_highB (by omega) _ hm
theorem hex_low:∀k<16,four [48,48,48,W.hexD k]=some k:=by decide+kernel
theorem hex_up:∀k<16,four [48,48,49,W.hexD k]=some (k+16):=by decide+kernel
theorem four_more {a b c d:UInt8}(r:List UInt8):four (a::b::c::d::r)=four [a,b,c,d]:=rfl
theorem esc_low {k:Nat}{x y z u:UInt8}(hk:k<32) (h:four [x,y,z,u]=some k) (r:List UInt8):esc (92::117::x::y::z::u::r)= .ok ([UInt8.ofNat k],r):=by
 unfold esc;simp only [List.drop_succ_cons,List.drop_zero];rw [show sign 117=none from rfl];simp only [if_true];unfold unit;rw [four_more,h];simp only;rw [if_neg (by omega)];simp only [List.drop_succ_cons,List.drop_zero];rw [if_pos (ok_plain (by omega) (by omega)),W.charL_1 (k:Int) (by omega) (by omega)];rfl
theorem head_ascii {c:UInt8}{r:List UInt8}(h:c.toNat<128):W.headD (c::r)=((c.toNat:Int),1,true):=by
 unfold W.headD;rw [Lib.decodeL_ascii c r h];simp only;rw [if_neg (by omega)];rfl
theorem ofNat_toNat (c:UInt8):UInt8.ofNat c.toNat=c:=by simp
theorem str_back:∀(m:Nat) (l rest:List UInt8) (f:Nat),l.length≤m→validD l=true→(quoteIn l).length<f→str f (quoteIn l++34::rest)= .ok (l,rest)
 | m,[],rest,f,_,_,hf=>by
   obtain ⟨f,rfl⟩:∃g,f=g+1:=⟨f-1,by omega⟩;exact str_quote f rest
 | 0,c::r,_,_,h,_,_=>by simp at h
 | m+1,c::r,rest,f,h,hv,hf=>by
   obtain ⟨f,rfl⟩:∃g,f=g+1:=⟨f-1,by omega⟩;obtain ⟨x,k,hh,k1,kl,hd⟩:=valid_cons hv;simp only [List.length_cons] at h;by_cases hc:c.toNat<128
   · rw [head_ascii hc] at hh;simp only [Prod.mk.injEq,and_true] at hh;obtain ⟨-,rfl⟩:=hh;have hr:validD r=true:=hd;have two:∀s:UInt8,sign s=some c→byteJ c= [92,s]→str (f+1) (quoteIn (c::r)++34::rest)= .ok (c::r,rest):=fun s hs hb=>by
       have e:quoteIn (c::r)=92::s::quoteIn r:=by show byteJ c++quoteIn r=_;rw [hb];rfl
       rw [e] at hf ⊢;simp only [List.length_cons] at hf;have ih:=str_back m r rest f (by omega) hr (by omega);rw [List.cons_append,List.cons_append,str_esc,esc_sign hs,strOn_ok,ih,pre_ok];rfl
     have six:∀x y z u:UInt8,c.toNat<32→four [x,y,z,u]=some c.toNat→byteJ c= [92,117,x,y,z,u]→str (f+1) (quoteIn (c::r)++34::rest)= .ok (c::r,rest):=fun x y z u h32 h4 hb=>by
       have e:quoteIn (c::r)=92::117::x::y::z::u::quoteIn r:=by
         show byteJ c++quoteIn r=_;rw [hb];rfl
       rw [e] at hf ⊢;simp only [List.length_cons] at hf;have ih:=str_back m r rest f (by omega) hr (by omega);simp only [List.cons_append];rw [str_esc,esc_low h32 h4,strOn_ok,ih,pre_ok,ofNat_toNat];rfl
     by_cases c34:c=34
     · subst c34;exact two 34 rfl rfl
     by_cases c92:c=92
     · subst c92;exact two 92 rfl rfl
     by_cases c8:c=8
     · subst c8;exact two 98 rfl rfl
     by_cases c12:c=12
     · subst c12;exact two 102 rfl rfl
     by_cases c10:c=10
     · subst c10;exact two 110 rfl rfl
     by_cases c13:c=13
     · subst c13;exact two 114 rfl rfl
     by_cases c9:c=9
     · subst c9;exact two 116 rfl rfl
     by_cases c16:c.toNat<16
     · exact six 48 48 48 _ (by omega) (hex_low _ c16) (by unfold byteJ;rw [if_neg c34,if_neg c92,if_neg c8,if_neg c12,if_neg c10,if_neg c13,if_neg c9,if_pos c16])
     by_cases c32:c.toNat<32
     · refine six 48 48 49 _ c32 ?_ (by unfold byteJ;rw [if_neg c34,if_neg c92,if_neg c8,if_neg c12,if_neg c10,if_neg c13,if_neg c9,if_neg c16,if_pos c32]);rw [hex_up _ (by omega)];congr 1
       omega
     · have e:quoteIn (c::r)=c::quoteIn r:=by
         show byteJ c++quoteIn r=_;rw [byteJ_plainB c34 c92 (by omega)];rfl
       rw [e] at hf ⊢;simp only [List.length_cons] at hf;have ih:=str_back m r rest f (by omega) hr (by omega);rw [List.cons_append,str_char f _ c34 c92 (by omega) (head_ascii hc)];simp only [Int.toNat_one,List.take_succ_cons,List.take_zero,List.drop_succ_cons,List.drop_zero];rw [ih,pre_ok];rfl
   · have c34:c≠34:=fun e=>by subst e;exact hc (by decide)
     have c92:c≠92:=fun e=>by subst e;exact hc (by decide)
     obtain ⟨g1,g2,g3,g4,g5,g6⟩:=W.head_good (c::r) (by simp) _ _ hh;have hhigh:∀b∈(c::r).take k.toNat,128≤b.toNat:=by
       rw [←g2];refine char_high g1 ?_;rcases dec_cases (r:=r) c34 c92 (by omega) with ⟨_,h2⟩|⟨ch,k',h1,h2,_,_,_,_,_,h7,h8,_⟩
       · rw [hh] at h2;cases h2
       · rw [hh] at h2;simp only [Prod.mk.injEq,and_true] at h2;have hx:=h2.1;have hz:(0:Nat)<(⟨(c::r).toArray⟩:ByteArray).size:=by show 0<(c::r).toArray.size;simp
         have h5:=decode_high ⟨(c::r).toArray⟩ 0 hz (by show 128≤c.toNat;omega);have e:Utf8.decode ⟨(c::r).toArray⟩ 0=(ch,k'):=h1;rw [e] at h5;have:=h5.1;simp only at this;omega
     obtain ⟨a,ha⟩:∃a,(c::r).take k.toNat=a:=⟨_,rfl⟩;obtain ⟨q,hq⟩:∃q,(c::r).drop k.toNat=q:=⟨_,rfl⟩;have hl:c::r=a++q:=by rw [←ha,←hq,List.take_append_drop]
     have hal:a.length=k.toNat:=by rw [←ha,List.length_take];omega
     rw [ha] at hhigh;rw [hq] at hd;have e:quoteIn (c::r)=a++quoteIn q:=by rw [hl,quoteIn_append,quoteIn_highB a hhigh]
     obtain ⟨a',ha'⟩:∃a',a=c::a':=by
       cases a with
       | nil=>simp at hal;omega
       | cons y a'=>simp only [List.cons_append,List.cons.injEq] at hl;exact ⟨a',by rw [hl.1]⟩
     have hql:q.length+a.length=r.length+1:=by have:=congrArg List.length hl;simp only [List.length_cons,List.length_append] at this;omega
     rw [e] at hf ⊢;rw [List.length_append] at hf;have ih:=str_back m q rest f (by omega) hd (by omega);have h0:a.getD 0 0=(c::r).getD 0 0:=by rw [ha'];rfl
     have hw:W.refW (a.getD 0 0).toNat≤a.length:=by rw [h0];omega
     have hhd:W.headD (a++(quoteIn q++34::rest))=(x,k,true):=by
       rw [W.head_append a _ (by omega) hw,←W.head_append a q (by omega) hw,←hl];exact hh
     rw [List.append_assoc];have e2:a++(quoteIn q++34::rest)=c::(a'++(quoteIn q++34::rest)):=by rw [ha'];rfl
     rw [e2] at hhd ⊢;rw [str_char f _ c34 c92 (by omega) hhd,←e2,←hal,List.take_left,List.drop_left,ih,pre_ok,hl]
theorem text_back {l:List UInt8}(hv:validD l=true) (rest:List UInt8):text (quoteL l++rest)= .ok (l,rest):=by
 unfold quoteL;rw [List.cons_append,List.append_assoc,List.singleton_append];show str _ _=_;exact str_back l.length l rest _ (Nat.le_refl _) hv (by rw [List.length_append,List.length_cons];omega)
theorem name_back {ns:List ByteArray}{x:ByteArray}(hv:validD x.data.toList=true) (hn:¬ x.data.toList∈ns.map (fun y=>y.data.toList)) (rest:List UInt8):name ns (quoteL x.data.toList++58::rest)= .ok (x,rest):=by
 unfold name;rw [text_back hv];simp only;rw [if_neg hn];have:skip (58::rest)=58::rest:=by unfold skip;rw [if_neg (by decide)]
 rw [this];rfl
open Go.Lib (validD itoa decDigits)
/-! ### values and lists -/
theorem skip_plain {c:UInt8}(h:blank c=false) (r:List UInt8):skip (c::r)=c::r:=by rw [skip,if_neg (by rw [h];simp)]
theorem stop_cons {c:UInt8}(h:dig c=false) (r:List UInt8):Stop (c::r):=fun d t e=>by cases e;exact h
theorem word_back:∀(w r:List UInt8),word w (w++r)= .ok ((),r)
 | [],r=>by cases r<;>rfl
 | c::w,r=>by rw [List.cons_append,word,if_pos rfl];exact word_back w r
def Opens (l:List UInt8):Prop:= ∃c r,l=c::r∧blank c=false∧c≠93∧c≠125
theorem itoa_opens (n:Int):∃c r,itoa n=c::r∧(c=45∨dig c=true):=by
 unfold itoa;by_cases h:n<0
 · rw [if_pos h];exact ⟨45,_,rfl,Or.inl rfl⟩
 · rw [if_neg h];have hd:=dec_digs n.toNat;obtain ⟨c,r,e⟩:∃c r,decDigits n.toNat=c::r:=by
    rw [decDigits];split
    · exact ⟨_,_,rfl⟩
    · cases hq:decDigits (n.toNat / 10) with
      | nil=>exact ⟨_,[],rfl⟩
      | cons c r=>exact ⟨c,_,rfl⟩
   exact ⟨c,r,e,Or.inr (hd c (by rw [e];simp))⟩
theorem dig_plain {c:UInt8}(h:c=45∨dig c=true):blank c=false∧c≠93∧c≠125∧c≠110∧c≠116∧c≠102:=by
 rcases h with rfl|h
 · decide
 · have h:48≤c.toNat∧c.toNat≤57:=of_decide_eq_true h;have hn:∀k:UInt8,(k.toNat<48∨57<k.toNat)→c≠k:=fun k hk e=>by subst e;omega
   refine ⟨?_,hn 93 (by decide),hn 125 (by decide),hn 110 (by decide),hn 116 (by decide),hn 102 (by decide)⟩;unfold blank;have e1:=hn 32 (by decide);have e2:=hn 9 (by decide);have e3:=hn 10 (by decide);have e4:=hn 13 (by decide);simp [e1,e2,e3,e4]
theorem show_opens (x:V):Opens x.show:=by
 unfold V.show;by_cases h1:x.k=1
 · rw [if_pos h1];exact ⟨110,_,rfl,by decide,by decide,by decide⟩
 rw [if_neg h1];by_cases h2:x.k=2
 · rw [if_pos h2];cases x.b
   · exact ⟨102,_,rfl,by decide,by decide,by decide⟩
   · exact ⟨116,_,rfl,by decide,by decide,by decide⟩
 rw [if_neg h2];by_cases h3:x.k=3
 · rw [if_pos h3];obtain ⟨c,r,e,h⟩:=itoa_opens x.n;have:=dig_plain h;exact ⟨c,r,e,this.1,this.2.1,this.2.2.1⟩
 rw [if_neg h3];by_cases h4:x.k=4
 · rw [if_pos h4];exact ⟨34,_,rfl,by decide,by decide,by decide⟩
 rw [if_neg h4];by_cases h6:x.k=6
 · rw [if_pos h6];exact ⟨123,_,rfl,by decide,by decide,by decide⟩
 · rw [if_neg h6];exact ⟨91,_,rfl,by decide,by decide,by decide⟩
def numT:T→Prop
 | .nil=>True
 | .cons _ _ n _ l _ r=>InI n∧numT l∧numT r
def shut (obj:Bool):UInt8:=if obj then 125 else 93
def BackT (t:T):Prop:= ∀(d f:Nat) (obj:Bool) (acc:T) (ns names:List ByteArray) (rest:List UInt8),mayT t=true→deepT t≤d→numT t→t≠ .nil→t.length≤f→
 (if obj then names.length=t.length else names= [])→namesOk ns.reverse names=true→
 elems (val d) obj f acc ns (showT obj true t names++shut obj::rest)= .ok ((acc.app t,ns++names),rest)
theorem plain_kind {k:Nat}{b:Bool}{n:Int}{s:ByteArray}{len:Nat}{ns:List ByteArray}(h:flat k b n s len ns=true):
   (1≤k∧k≤6)∧(k≠2→b=false)∧(k≠3→n=0)∧(k≠4→s.data.toList= [])∧(k≠5→k≠6→len=0)∧(k≠6→ns= [])∧(k=6→ns.length=len)∧validD s.data.toList=true∧namesOk [] ns=true:=by
 simp only [flat,plainOk,listOk,Bool.and_eq_true,Bool.or_eq_true,decide_eq_true_eq,beq_iff_eq,Bool.not_eq_true',List.isEmpty_iff,bne_iff_ne,ne_eq] at h;obtain ⟨⟨h1,h2,h3,h4⟩,⟨h5,h6,h7⟩,h8,h9⟩:=h;refine ⟨h1,fun q=>h2.resolve_right q,fun q=>h3.resolve_right q,fun q=>h4.resolve_right q,fun q r=> ?_,fun q=>List.length_eq_zero_iff.1 (h6.resolve_left q),fun q=>h7.resolve_left (fun e=>e q),h8,h9⟩;rcases h5 with (h5|h5)|h5
 · exact absurd h5 q
 · exact absurd h5 r
 · exact h5
theorem empty_of {s:ByteArray}(h:s.data.toList= []):s=⟨#[]⟩:=by
 cases s with
 | mk a=>congr 1;exact Array.toList_eq_nil_iff.1 h
theorem len_nil {t:T}(h:t.length=0):t= .nil:=by cases t with|nil=>rfl|cons=>simp [T.length] at h
theorem showT_first (obj:Bool) (t:T) (names:List ByteArray) (h:t≠ .nil):showT obj false t names=44::showT obj true t names:=by
 cases t with
 | nil=>exact absurd rfl h
 | cons k b n s l ns r=>rfl
theorem showT_cons (obj:Bool) (k:Nat) (b:Bool) (n:Int) (s:ByteArray) (l:T) (ns:List ByteArray) (r:T) (names:List ByteArray):
  showT obj true (.cons k b n s l ns r) names=(if obj then quoteL (names.headD ⟨#[]⟩).data.toList++ [58] else [])++((⟨k,b,n,s,l,ns⟩:V).show++showT obj false r (names.drop 1)):=by
 rw [showT];rfl
theorem showT_opens (obj:Bool) (t:T) (names:List ByteArray) (h:t≠ .nil):Opens (showT obj true t names):=by
 cases t with
 | nil=>exact absurd rfl h
 | cons k b n s l ns r=>
   rw [showT_cons];cases obj with
   | true=>exact ⟨34,_,rfl,by decide,by decide,by decide⟩
   | false=>
     obtain ⟨c,q,e,h1⟩:=show_opens ⟨k,b,n,s,l,ns⟩;rw [e];exact ⟨c,_,rfl,h1⟩
theorem showT_length (obj:Bool):∀(t:T) (names:List ByteArray),t.length≤(showT obj true t names).length
 | .nil,_=>Nat.zero_le _
 | .cons k b n s l ns r,names=>by
   rw [showT_cons];obtain ⟨c,q,e, -⟩:=show_opens ⟨k,b,n,s,l,ns⟩;have ih:=showT_length obj r (names.drop 1);have hr:r.length≤(showT obj false r (names.drop 1)).length:=by
    by_cases h:r= .nil
    · subst h;exact Nat.zero_le _
    · rw [showT_first obj r _ h,List.length_cons];omega
   simp only [T.length,List.length_append,e,List.length_cons];omega
theorem val_back (d:Nat) (x:V) (h:BackT x.l) (hm:x.may=true) (hd:x.deep≤d) (hn:InI x.n) (hN:numT x.l) (rest:List UInt8) (hs:Stop rest):val d (x.show++rest)= .ok (x,rest):=by
 obtain ⟨k,b,n,s,l,ns⟩:=x;simp only [V.may,Bool.and_eq_true] at hm;obtain ⟨⟨k1,k6⟩,pb,pn,ps,pl,pm,pq,pv,po⟩:=plain_kind hm.1;simp only at h hn hN;obtain ⟨c,r,e,hb, -, -⟩:=show_opens ⟨k,b,n,s,l,ns⟩;have hv:val d ((⟨k,b,n,s,l,ns⟩:V).show++rest)=val d (c::(r++rest)):=by rw [e];rfl
 by_cases h1:k=1
 · subst h1;obtain rfl:=pb (by decide);obtain rfl:=pn (by decide);obtain rfl:=empty_of (ps (by decide));obtain rfl:=len_nil (pl (by decide) (by decide));obtain rfl:=pm (by decide);show val d (110::([117,108,108]++rest))=_;rw [val,skip_plain (by decide)];simp only [if_true];rw [show (110:UInt8)::([117,108,108]++rest)= [110,117,108,108]++rest from rfl,word_back];rfl
 by_cases h2:k=2
 · subst h2;obtain rfl:=pn (by decide);obtain rfl:=empty_of (ps (by decide));obtain rfl:=len_nil (pl (by decide) (by decide));obtain rfl:=pm (by decide);cases b with
   | true=>
     show val d (116::([114,117,101]++rest))=_;rw [val,skip_plain (by decide)];simp only [if_true];rw [if_neg (by decide),show (116:UInt8)::([114,117,101]++rest)= [116,114,117,101]++rest from rfl,word_back];rfl
   | false=>
     show val d (102::([97,108,115,101]++rest))=_;rw [val,skip_plain (by decide)];simp only [if_true];rw [if_neg (by decide),if_neg (by decide),show (102:UInt8)::([97,108,115,101]++rest)= [102,97,108,115,101]++rest from rfl,word_back];rfl
 obtain rfl:=pb h2;by_cases h3:k=3
 · subst h3;obtain rfl:=empty_of (ps (by decide));obtain rfl:=len_nil (pl (by decide) (by decide));obtain rfl:=pm (by decide);obtain ⟨c,r,e,hc⟩:=itoa_opens n;obtain ⟨g1,g2,g3,g4,g5,g6⟩:=dig_plain hc;have e2:itoa n++rest=c::(r++rest):=by rw [e];rfl
   show val d (itoa n++rest)=_;rw [e2,val,skip_plain g1];simp only;rw [if_neg g4,if_neg g5,if_neg g6,if_pos hc,←e2,num_itoa n hn rest hs];rfl
 obtain rfl:=pn h3;by_cases h4:k=4
 · subst h4;obtain rfl:=len_nil (pl (by decide) (by decide));obtain rfl:=pm (by decide);show val d (quoteL s.data.toList++rest)=_;have e2:quoteL s.data.toList++rest=34::((quoteIn s.data.toList++ [34])++rest):=rfl;rw [e2,val,skip_plain (by decide)];simp only;rw [if_neg (by decide),if_neg (by decide),if_neg (by decide),if_neg (by decide),if_pos trivial,←e2,text_back pv];rfl
 obtain rfl:=empty_of (ps h4);have h56:k=5∨k=6:=by omega
 have hdd:deepT l+1≤d:=by
   have:(⟨k,false,0,⟨#[]⟩,l,ns⟩:V).deep=deepT l+1:=by unfold V.deep;rw [if_pos h56]
   omega
 obtain ⟨d,rfl⟩:∃d',d=d'+1:=⟨d-1,by omega⟩;obtain ⟨ob,hob⟩:∃ob:UInt8,ob=if k=6 then 123 else 91:=⟨_,rfl⟩
 have e2:(⟨k,false,0,⟨#[]⟩,l,ns⟩:V).show++rest=ob::(showT (k==6) true l ns++shut (k==6)::rest):=by
   unfold V.show;rw [if_neg h1,if_neg h2,if_neg h3,if_neg h4,←hob];simp only [List.cons_append,List.append_assoc,List.nil_append];unfold shut;by_cases h6:k=6<;>simp [h6]
 rw [e2];have ho:blank ob=false∧ob≠110∧ob≠116∧ob≠102∧¬ (ob=45∨dig ob=true)∧ob≠34∧(ob=91∨ob=123)∧(ob==123)=(k==6):=by
   rcases h56 with rfl|rfl
   · subst hob;decide
   · subst hob;decide
 obtain ⟨o1,o2,o3,o4,o5,o6,o7,o8⟩:=ho;rw [val,skip_plain o1];simp only;rw [if_neg o2,if_neg o3,if_neg o4,if_neg o5,if_neg o6,if_pos o7,o8];have hkk:(if (k==6)=true then 6 else 5)=k:=by rcases h56 with rfl|rfl<;>rfl
 have hsh:blank (shut (k==6))=false:=by rcases h56 with rfl|rfl<;>decide
 unfold inside;simp only [List.drop_succ_cons,List.drop_zero,hkk];by_cases hl:l= .nil
 · subst hl;have hns:ns= []:=by
     rcases h56 with rfl|rfl
     · exact pm (by decide)
     · exact List.length_eq_zero_iff.1 (pq rfl)
   subst hns;rw [show showT (k==6) true T.nil []= [] by rw [showT],List.nil_append,skip_plain hsh];simp only;rw [if_pos (by rfl)]
 · obtain ⟨c,r,e,c1,c2,c3⟩:=showT_opens (k==6) l ns hl;have e3:showT (k==6) true l ns++shut (k==6)::rest=c::(r++shut (k==6)::rest):=by rw [e];rfl
   have hlen:l.length≤(ob::(showT (k==6) true l ns++shut (k==6)::rest)).length+1:=by
     have:=showT_length (k==6) l ns;simp only [List.length_cons,List.length_append];omega
   have hB:=h d ((ob::(showT (k==6) true l ns++shut (k==6)::rest)).length+1) (k==6) .nil [] ns rest hm.2 (by omega) hN hl hlen (by
     rcases h56 with rfl|rfl
     · rw [if_neg (by decide)];exact pm (by decide)
     · rw [if_pos (by decide)];exact pq rfl) po
   rw [e3] at hB ⊢;rw [skip_plain c1];simp only;rw [if_neg (show ¬ c=if (k==6)=true then 125 else 93 by cases (k==6) with|false=>exact c2|true=>exact c3),hB];rfl
def stepB (d:Nat) (obj:Bool):Step:=if obj then stepO (val d) else stepL (val d)
theorem elems_run (d:Nat) (obj:Bool) (f:Nat) (t:T) (ns:List ByteArray) (l:List UInt8):elems (val d) obj f t ns l=run (stepB d obj) (shut obj) f (t,ns) l:=by
 cases obj
 · exact elems_list d f t ns l
 · exact elems_obj d f t ns l
theorem elems_back:∀(t:T),BackT t
 | .nil=>fun _ _ _ _ _ _ _ _ _ _ h=>absurd rfl h
 | .cons k b n s l ns' r=>by
   intro d f obj acc ns names rest hm hd hN _ hf hnames hok;have hl:=elems_back l;have hr:=elems_back r;simp only [T.length] at hf;obtain ⟨f,rfl⟩:∃g,f=g+1:=⟨f-1,by omega⟩;simp only [mayT,Bool.and_eq_true] at hm;obtain ⟨⟨hfl,hml⟩,hmr⟩:=hm;simp only [numT] at hN;obtain ⟨hn,hNl,hNr⟩:=hN;simp only [deepT] at hd;have hx:(⟨k,b,n,s,l,ns'⟩:V).may=true:=by unfold V.may;simp only [Bool.and_eq_true];exact ⟨hfl,hml⟩
   have hxd:(⟨k,b,n,s,l,ns'⟩:V).deep≤d:=by
     unfold V.deep;simp only;split
     · rename_i h;rw [if_pos h] at hd;omega
     · exact Nat.zero_le _
   have hsh:blank (shut obj)=false∧dig (shut obj)=false∧shut obj≠44:=by cases obj<;>decide
   obtain ⟨tail,ht⟩:∃tail,tail=showT obj false r (names.drop 1)++shut obj::rest:=⟨_,rfl⟩;have hstop:Stop tail:=by
     rw [ht];by_cases e:r= .nil
     · subst e;exact stop_cons hsh.2.1 _
     · rw [showT_first obj r _ e];exact stop_cons (by decide) _
   have hv:=val_back d ⟨k,b,n,s,l,ns'⟩ hl hx hxd hn hNl tail hstop;obtain ⟨names',nm,h1,h3,h4,h5,h6⟩:∃names' nm,names=nm++names'∧
       stepB d obj (acc,ns) (showT obj true (.cons k b n s l ns' r) names++shut obj::rest)= .ok ((acc.snoc ⟨k,b,n,s,l,ns'⟩,ns++nm),tail)∧names.drop 1=names'∧(if obj then names'.length=r.length else names'= [])∧namesOk (ns++nm).reverse names'=true:=by
     cases obj with
     | true=>
       rw [if_pos rfl] at hnames;cases names with
       | nil=>simp [T.length] at hnames
       | cons x0 names'=>
         simp only [namesOk,Bool.and_eq_true,Bool.not_eq_true'] at hok;obtain ⟨o1,o2,o3⟩:=hok;have hni:¬ x0.data.toList∈ns.map (fun y=>y.data.toList):=by
           intro hin;obtain ⟨y,hy,he⟩:=List.mem_map.1 hin;have:(ns.reverse.any fun y=>decide (y.data.toList=x0.data.toList))=true:=List.any_eq_true.2 ⟨y,List.mem_reverse.2 hy,decide_eq_true he⟩;rw [this] at o1;cases o1
         refine ⟨names',[x0],rfl,?_,rfl,?_,?_⟩
         · have e0:showT true true (.cons k b n s l ns' r) (x0::names')++shut true::rest=quoteL x0.data.toList++58::((⟨k,b,n,s,l,ns'⟩:V).show++tail):=by
            rw [showT_cons,ht];simp only [if_true,List.headD_cons,List.append_assoc,List.cons_append,List.nil_append]
           have e34:∀q,skip (quoteL x0.data.toList++q)=quoteL x0.data.toList++q:=fun q=>skip_plain (by decide) _
           show stepO (val d) _ _=_;unfold stepO;rw [e0,e34,name_back o2 hni];simp only;rw [hv]
         · rw [if_pos rfl];simpa [T.length] using hnames
         · rw [List.reverse_append];exact o3
     | false=>
       rw [if_neg (by decide)] at hnames;subst hnames;refine ⟨[],[],rfl,?_,rfl,?_,?_⟩
       · have e0:showT false true (.cons k b n s l ns' r) []++shut false::rest=(⟨k,b,n,s,l,ns'⟩:V).show++tail:=by
           rw [showT_cons,ht,if_neg (by decide),List.nil_append,List.append_assoc]
         show stepL (val d) _ _=_;unfold stepL;rw [e0,hv,List.append_nil]
       · rw [if_neg (by decide)]
       · rfl
   rw [elems_run,run,h3];simp only;rw [h4] at ht;by_cases e:r= .nil
   · subst e;have hn':names'= []:=by
       cases obj with
       | true=>rw [if_pos rfl] at h5;exact List.length_eq_zero_iff.1 h5
       | false=>rw [if_neg (by decide)] at h5;exact h5
     subst hn';rw [ht,show showT obj false T.nil []= [] by rw [showT],List.nil_append,skip_plain hsh.1];simp only;rw [if_pos trivial,h1,List.append_nil];rfl
   · rw [ht,showT_first obj r names' e,List.cons_append,skip_plain (by decide)];simp only;rw [if_neg (fun e=>hsh.2.2 e.symm),if_pos trivial,←elems_run];rw [hr d f obj (acc.snoc ⟨k,b,n,s,l,ns'⟩) (ns++nm) names' rest hmr (by omega) hNr e (by omega) h5 h6,h1,List.append_assoc];rw [T.snoc,T.app_assoc];rfl
theorem skip_blanks {a:List UInt8}(h:∀c∈a,blank c=true) (l:List UInt8):skip (a++l)=skip l:=by
 induction a with
 | nil=>rfl
 | cons c a ih=>
   rw [List.cons_append,skip,if_pos (h c (by simp))];exact ih (fun x hx=>h x (by simp [hx]))
theorem blank_dig {c:UInt8}(h:blank c=true):dig c=false:=by
 unfold blank at h;simp only [Bool.or_eq_true,beq_iff_eq] at h;rcases h with ((rfl|rfl)|rfl)|rfl<;>rfl
theorem parse_back (x:V) (hm:x.may=true) (hd:x.deep≤16) (hn:InI x.n) (hN:numT x.l) (a z:List UInt8) (ha:∀c∈a,blank c=true) (hz:∀c∈z,blank c=true) (hl:(a++(x.show++z)).length≤65536):parse (a++(x.show++z))=(x,0,0):=by
 have hs:Stop z:=fun c r e=>blank_dig (hz c (by rw [e];simp))
 have hv:=val_back 16 x (elems_back x.l) hm hd hn hN z hs;have hv2:val 16 (a++(x.show++z))= .ok (x,z):=by rw [←val_skip,skip_blanks ha,val_skip,hv]
 have hz2:skip z= []:=by have:=skip_blanks hz [];rwa [List.append_nil] at this
 unfold parse;rw [if_neg (by omega),hv2];simp only;rw [hz2]
end J
namespace R
open J (T V namesOk mayT deepT showT showT_cons showT_first check numT InI)
open Go.Lib (validD)
theorem names_iff:∀(ns seen:List ByteArray),namesOk seen ns=true↔(∀x∈ns,validD x.data.toList=true)∧unlike ns∧∀x∈ns,∀y∈seen,y.data.toList≠x.data.toList
 | [],seen=>by simp [namesOk,unlike]
 | a::ns,seen=>by
   have ih:=names_iff ns (a::seen)
   simp only [namesOk,Bool.and_eq_true,Bool.not_eq_true',List.any_eq_false,decide_eq_true_eq,ih,unlike,List.pairwise_cons,List.mem_cons]
   constructor
   · rintro ⟨h1,h2,h3,h4,h5⟩
     refine ⟨?_,⟨fun x hx=>h5 x hx a (Or.inl rfl),h4⟩,?_⟩
     · rintro x (rfl|hx)
       · exact h2
       · exact h3 x hx
     · rintro x (rfl|hx) y hy
       · exact h1 y hy
       · exact h5 x hx y (Or.inr hy)
   · rintro ⟨h1,⟨h2,h3⟩,h4⟩
     refine ⟨fun y hy=>h4 a (Or.inl rfl) y hy,h1 a (Or.inl rfl),fun x hx=>h1 x (Or.inr hx),h3,?_⟩
     rintro x hx y (rfl|hy)
     · exact h2 x hx
     · exact h4 x (Or.inr hx) y hy
theorem names_turn (a b:List ByteArray) (h:namesOk [] (a++b)=true):namesOk [] (b++a)=true:=by
 rw [names_iff] at h ⊢;obtain ⟨h1,h2, -⟩:=h;refine ⟨fun x hx=>h1 x (by rw [List.mem_append] at hx ⊢;exact hx.symm),?_,fun _ _ y hy=>by cases hy⟩;unfold unlike at h2 ⊢;rw [List.pairwise_append] at h2 ⊢;exact ⟨h2.2.1,h2.1,fun x hx y hy=>(h2.2.2 y hy x hx).symm⟩
theorem may_app:∀(a b:T),mayT (a.app b)=(mayT a&&mayT b)
 | .nil,b=>rfl
 | .cons k bb n s l ns r,b=>by
   show (_&&mayT (r.app b))=((_&&mayT r)&&mayT b)
   rw [may_app r b,←Bool.and_assoc]
theorem deep_app:∀(a b:T),deepT (a.app b)=max (deepT a) (deepT b)
 | .nil,b=>by show deepT b=max 0 (deepT b);omega
 | .cons k bb n s l ns r,b=>by
   show max _ (deepT (r.app b))=max (max _ (deepT r)) (deepT b)
   rw [deep_app r b];omega
theorem num_app:∀(a b:T),numT (a.app b)↔(numT a∧numT b)
 | .nil,b=>by show numT b↔True∧numT b;simp
 | .cons k bb n s l ns r,b=>by
   show (InI n∧numT l∧numT (r.app b))↔(InI n∧numT l∧numT r)∧numT b
   rw [num_app r b]
   constructor
   · rintro ⟨h1,h2,h3,h4⟩;exact ⟨⟨h1,h2,h3⟩,h4⟩
   · rintro ⟨⟨h1,h2,h3⟩,h4⟩;exact ⟨h1,h2,h3,h4⟩
def lenT:T→List ByteArray→Nat
 | .nil,_=>0
 | .cons k b n s l ns r,names=>(J.quoteL (names.headD ⟨#[]⟩).data.toList).length+1+(⟨k,b,n,s,l,ns⟩:V).show.length+1+lenT r (names.drop 1)
theorem len_show:∀(t:T) (names:List ByteArray),(showT true false t names).length=lenT t names
 | .nil,_=>rfl
 | .cons k b n s l ns r,names=>by
   rw [showT_first true _ _ (by intro h;cases h),showT_cons]
   have ih:=len_show r (names.drop 1)
   simp only [if_true,List.length_cons,List.length_append,ih,lenT,List.length_nil]
   omega
theorem len_app:∀(a b:T) (na nb:List ByteArray),na.length=a.length→lenT (a.app b) (na++nb)=lenT a na+lenT b nb
 | .nil,b,na,nb,h=>by rw [List.length_eq_zero_iff.1 h];show lenT b nb=0+lenT b nb;omega
 | .cons ..,b,[],nb,h=>by simp [T.length] at h
 | .cons k bb n s l ns r,b,x::na,nb,h=>by
   have ih:=len_app r b na nb (by simpa [T.length] using h)
   show _+lenT (r.app b) (na++nb)=(_+lenT r na)+lenT b nb
   rw [ih]
   show (_:Nat)=_
   simp only [List.cons_append,List.headD_cons]
   omega
theorem len_obj (b:Bool) (n:Int) (s:ByteArray) (t:T) (ns:List ByteArray):(⟨6,b,n,s,t,ns⟩:V).show.length=(if t.length=0 then 0 else lenT t ns-1)+2:=by
 show (123::(showT true true t ns++ [125])).length=_;cases t with
 | nil=>rfl
 | cons k b n s l m r=>
   have e:=len_show (.cons k b n s l m r) ns;rw [showT_first true _ _ (by intro h;cases h)] at e;simp only [List.length_cons] at e;rw [if_neg (by simp [T.length])];simp only [List.length_cons,List.length_append,List.length_nil];omega
theorem turn_len (b:Bool) (n:Int) (s:ByteArray) (t u:T) (nt nu:List ByteArray) (h1:nt.length=t.length) (h2:nu.length=u.length):
  (⟨6,b,n,s,u.app t,nu++nt⟩:V).show.length=(⟨6,b,n,s,t.app u,nt++nu⟩:V).show.length:=by
 rw [len_obj,len_obj,T.app_length,T.app_length,len_app t u nt nu h1,len_app u t nu nt h2,Nat.add_comm (T.length u),Nat.add_comm (lenT u nu)]
theorem turn_may (b:Bool) (n:Int) (s:ByteArray) (t u:T) (nt nu:List ByteArray) (h:(⟨6,b,n,s,t.app u,nt++nu⟩:V).may=true):(⟨6,b,n,s,u.app t,nu++nt⟩:V).may=true:=by
 simp only [V.may,J.flat,may_app,T.app_length,List.length_append,Bool.and_eq_true] at h ⊢;obtain ⟨⟨h1,h2,h3,h4⟩,h5,h6⟩:=h;rw [Nat.add_comm u.length,Nat.add_comm nu.length];exact ⟨⟨h1,h2,h3,names_turn _ _ h4⟩,h6,h5⟩
theorem turn_check (b:Bool) (n:Int) (s:ByteArray) (t u:T) (nt nu:List ByteArray) (h:check (⟨6,b,n,s,t.app u,nt++nu⟩:V)=0):check (⟨6,b,n,s,u.app t,nu++nt⟩:V)=0∧(⟨6,b,n,s,t.app u,nt++nu⟩:V).may=true∧(⟨6,b,n,s,u.app t,nu++nt⟩:V).may=true∧(⟨6,b,n,s,t.app u,nt++nu⟩:V).deep≤16∧(⟨6,b,n,s,u.app t,nu++nt⟩:V).deep≤16∧unlike (nt++nu):=by
 unfold check at h;by_cases hm:(⟨6,b,n,s,t.app u,nt++nu⟩:V).may=true
 · rw [if_pos hm] at h;have hm2:=turn_may b n s t u nt nu hm;have hd:(⟨6,b,n,s,u.app t,nu++nt⟩:V).deep=(⟨6,b,n,s,t.app u,nt++nu⟩:V).deep:=by
     show deepT (u.app t)+1=deepT (t.app u)+1;rw [deep_app,deep_app,Nat.max_comm]
   have h16:(⟨6,b,n,s,t.app u,nt++nu⟩:V).deep≤16:=by
     by_cases hh:16<(⟨6,b,n,s,t.app u,nt++nu⟩:V).deep
     · rw [if_pos hh] at h;cases h
     · omega
   refine ⟨?_,hm,hm2,h16,by omega,?_⟩
   · unfold check;rw [if_pos hm2,if_neg (by omega)]
   · simp only [V.may,J.flat,Bool.and_eq_true] at hm;exact ((names_iff _ _).1 hm.1.2.2.2).2.1
 · rw [if_neg hm] at h;cases h
open J (T V)
inductive Ans where
 | no (st er:Int)
 | look (get:Nat) (name:ByteArray) (id:Int)
 | deploy
 | bad (place er:Int)
 | deed (K:Nat) (id:Int) (d:D)
def d0 (K:Nat):D:=⟨⟨#[]⟩,⟨#[]⟩,⟨#[]⟩,if K=7 then 1 else 0,0,[]⟩
def read (get post:Bool) (path:ByteArray) (body:V×Int×Int):Ans:=
 match find path with
 | none=> .no 404 301
 | some f=>
   if get=true∧0<f.get then .look f.get f.name f.id
   else if post=false∨f.post=0 then .no 405 300
   else if f.post=1 then .deploy
   else if body.2.2≠0 then .bad body.2.1 body.2.2
   else match fill f.post (d0 f.post) body.1 with
    | none=> .no 400 4
    | some d=> .deed f.post f.id d
theorem read_same (get post:Bool) (path:ByteArray) {x y:V}(h:∀K d,fill K d x=fill K d y):read get post path (x,0,0)=read get post path (y,0,0):=by
 unfold read;cases find path with
 | none=>rfl
 | some f=>simp only [h]
theorem read_turn (get post:Bool) (path:ByteArray) {x y:V}(b:Bool) (n:Int) (s:ByteArray) (t u:T) (nt nu:List ByteArray) (h1:nt.length=t.length) (h2:nu.length=u.length) (hn:unlike (nt++nu))
  (hx:x.loose ⟨6,b,n,s,t.app u,nt++nu⟩) (hy:y.loose ⟨6,b,n,s,u.app t,nu++nt⟩):read get post path (x,0,0)=read get post path (y,0,0):=
 read_same get post path fun K d=>by
  rw [fill_loose K d hx,fill_loose K d hy]
  exact fill_turn K d 6 b n s t u nt nu h1 h2 hn
end R
open Go.RowKit
open Go.Lib (hid)
namespace R
def bindC (x:B):List Value:= [.string x.nm,.int .u8 x.k,.int .i64 x.n,.bool x.b,.string x.s]
def bindsC:List B→List Value
 | []=> []
 | x::r=>bindC x++bindsC r
theorem bindsC_snoc (x:B):∀l,bindsC (l++ [x])=bindsC l++bindC x
 | []=>by simp [bindsC]
 | y::l=>by
   show bindC y++bindsC (l++ [x])=(bindC y++bindsC l)++bindC x
   rw [bindsC_snoc x l,List.append_assoc]
theorem bindC_one (x:B):∀u∈bindC x,u.oneCell'=true:=by
 intro u h;simp only [bindC,List.mem_cons,List.not_mem_nil,or_false] at h;rcases h with rfl|rfl|rfl|rfl|rfl<;>rfl
end R
theorem infoBind:(Tryz.prog.info? 57).map (fun i=>(i.zero,i.size,i.bytes))=some (some (.agg #[.string ⟨#[]⟩,.int .u8 0,.int .i64 0,.bool false,.string ⟨#[]⟩]),5,56):=by kernel_rfl
structure DAt (W:World) (A B K:Nat) (id:Int) (d:R.D) (pv:Value):Prop where
 sx:Sx W A (.string d.name) (.string d.key) (.string d.worker) (.int .i64 d.n) (.int .i64 d.ticks) pv K id
 own:W.ownsRow B 57 5 pv d.patch.length (R.bindsC d.patch)
 ab:A<B
theorem DAt.far {W:World}{A B K:Nat}{id:Int}{d:R.D}{pv:Value}(h:DAt W A B K id d pv):∀k,pv.ownBlock=some k→B≤k∧k<W.heap.size:=World.ownsRow.lt h.own
theorem DAt.below {W W':World}{A B K:Nat}{id:Int}{d:R.D}{pv:Value}(h:DAt W A B K id d pv) (hb:Below W.heap.size W W'):DAt W' A B K id d pv:=
 ⟨h.sx.below hb,World.ownsRow.kept (row:=none) h.own ⟨hb.os,hb.tape,hb.output,hb.size,fun k hk _=>hb.block k hk⟩ (Classical.em _),h.ab⟩
theorem DAt.other {W W':World}{A B K:Nat}{id:Int}{d d':R.D}{pv:Value}(h:DAt W A B K id d pv) (hg:W.grownBy W' (some A)) (hs:Sx W' A (.string d'.name) (.string d'.key) (.string d'.worker) (.int .i64 d'.n) (.int .i64 d'.ticks) pv K id) (hp:d'.patch=d.patch):DAt W' A B K id d' pv:=by
 refine ⟨hs,?_,h.ab⟩;rw [hp];refine World.ownsRow.kept h.own hg ?_;cases he:pv.ownBlock with
 | none=>exact Or.inl rfl
 | some k=>exact Or.inr fun e=>by have:=(h.far k he).1;have:=h.ab;cases e;omega
structure G2 (A:Nat) (o:Option Nat) (w W:World):Prop where
 os:W.os=w.os
 tape:W.tape=w.tape
 output:W.output=w.output
 size:w.heap.size≤W.heap.size
 block:∀k,k<w.heap.size→k≠A→o≠some k→W.heap[k]? =w.heap[k]?
theorem G2.refl (A:Nat) (o:Option Nat) (w:World):G2 A o w w:=⟨rfl,rfl,rfl,Nat.le_refl _,fun _ _ _ _=>rfl⟩
theorem G2.below {A:Nat}{o:Option Nat}{w W W':World}(h:G2 A o w W) (hb:Below W.heap.size W W'):G2 A o w W':=
 ⟨hb.os.trans h.os,hb.tape.trans h.tape,hb.output.trans h.output,Nat.le_trans h.size hb.size,fun k hk h1 h2=>(hb.block k (Nat.lt_of_lt_of_le hk h.size)).trans (h.block k hk h1 h2)⟩
theorem G2.grown {A : Nat} {o q : Option Nat} {w W W' : World} (h : G2 A o w W) (hg : W.grownBy W' q) (hq : ∀ k, q = some k → k = A ∨ o = some k ∨ w.heap.size ≤ k) : G2 A o w W' :=
 ⟨hg.os.trans h.os, hg.tape.trans h.tape, hg.output.trans h.output, Nat.le_trans h.size hg.size, fun k hk h1 h2 => (hg.block k (Nat.lt_of_lt_of_le hk h.size) (fun e => by
  rcases hq k e.symm with h3 | h3 | h3
  · exact h1 h3
  · exact h2 h3
  · omega)).trans (h.block k hk h1 h2)⟩
def PutOf (A B K:Nat) (id:Int) (pv0:Value) (w:World) (x:Option R.D) (e:Ending) (W:World):Prop:=
 G2 A pv0.ownBlock w W∧((x=none∧e= .returned (.bool false))∨∃d pv,x=some d∧e= .returned (.bool true)∧DAt W A B K id d pv∧∀k,pv.ownBlock=some k→pv0.ownBlock=some k∨w.heap.size≤k)
structure VR (w:World) (P:Nat→Prop) (A B K:Nat) (id:Int) (d:R.D) (pv0:Value) (ns:List ByteArray) (nv:Value) (X:Nat) (XO:Obj) (i:Nat) (acc:List R.B) (pv:Value) (t2:J.T) (g o:Nat) (W:World):Prop where
 de:DAt W A B K id { d with patch:=acc } pv
 gr:G2 A pv0.ownBlock w W
 bx:W.heap[X]? =some XO
 ca:t2≠ .nil→t2.At W P g o
 sn:J.SIn W P ns nv
 le:acc.length≤d.patch.length+i
 ow:∀k,pv.ownBlock=some k→k≠X∧(pv0.ownBlock=some k∨w.heap.size≤k)
theorem VR.after {w W W':World}{P:Nat→Prop}{A B K:Nat}{id:Int}{d:R.D}{pv0:Value}{ns:List ByteArray}{nv:Value}{X:Nat}{XO:Obj}{i:Nat}{acc:List R.B}{pv:Value}{t2:J.T}{g o:Nat}(h:VR w P A B K id d pv0 ns nv X XO i acc pv t2 g o W)
  (hP:∀b,P b→b<w.heap.size) (hb:Below W.heap.size W W'):VR w P A B K id d pv0 ns nv X XO i acc pv t2 g o W':=by
 have hk:∀b,P b→W'.heap[b]? =W.heap[b]? :=fun b h1=>hb.block b (Nat.lt_of_lt_of_le (hP b h1) h.gr.size)
 exact ⟨h.de.below hb,h.gr.below hb,(hb.block X (Go.lt_of_block h.bx)).trans h.bx,fun hne=>J.T.At.keep (fun _ h=>h) hk _ _ _ (h.ca hne),J.SIn.keep (fun _ h=>h) hk h.sn,h.le,h.ow⟩
theorem VR.next {w W W6 W8:World}{P:Nat→Prop}{A B K:Nat}{id:Int}{d:R.D}{pv0:Value}{ns:List ByteArray}{nv:Value}{X:Nat}{XO:Obj}{i:Nat}{acc:List R.B}{pv:Value}{k1:Nat}{b1:Bool}{n1:Int}{s1:ByteArray}{l1:J.T}{m1:List ByteArray}{r:J.T}{g o:Nat}
   (h:VR w P A B K id d pv0 ns nv X XO i acc pv (.cons k1 b1 n1 s1 l1 m1 r) g o W) (hP:∀b,P b→b<w.heap.size∧b≠A∧pv0.ownBlock≠some b) (hXA:X≠A) (hb:Below W.heap.size W W6) (x:R.B) {g1 cap m:Nat}(hm:acc.length=m)
   (hown:W8.ownsRow B 57 5 (.slice (some ⟨g1,0,none⟩) (m+1) cap) (m+1) (R.bindsC acc++R.bindC x)) (hg:W6.grownBy W8 pv.ownBlock) (hat:pv.ownBlock=some g1∨g1=W6.heap.size):
   VR w P A B K id d pv0 ns nv X XO (i+1) (acc++ [x]) (.slice (some ⟨g1,0,none⟩) (m+1) cap) r g (o+6) (W8.setCell ⟨A,12,none⟩ (.slice (some ⟨g1,0,none⟩) (m+1) cap)):=by
 have hV:=h.after (fun b hb=>(hP b hb).1) hb;have hAB:=hV.de.ab;have hA6:=Go.lt_of_block hV.de.sx.h;have hX6:=Go.lt_of_block hV.bx;have hgA:g1≠A:=by
   rcases hat with h1|h1
   · have:=(hV.de.far g1 h1).1;omega
   · omega
 have hgX:g1≠X:=by
   rcases hat with h1|h1
   · exact (hV.ow g1 h1).1
   · omega
 have hoA:∀k,pv.ownBlock=some k→k≠A:=fun k hk=>by have:=(hV.de.far k hk).1;omega
 have e1:∀k,k≠A→k<W6.heap.size→pv.ownBlock≠some k→(W8.setCell ⟨A,12,none⟩ (.slice (some ⟨g1,0,none⟩) (m+1) cap)).heap[k]? =W6.heap[k]? :=fun k h1 h2 h3=>by
   rw [heap_setCell_other _ _ _ _ h1];exact hg.block k h2 (fun e=>h3 e.symm)
 have hP2:∀b,P b→(W8.setCell ⟨A,12,none⟩ (.slice (some ⟨g1,0,none⟩) (m+1) cap)).heap[b]? =W6.heap[b]? :=fun b hb=>by
   obtain ⟨p1,p2,p3⟩:=hP b hb;refine e1 b p2 (Nat.lt_of_lt_of_le p1 hV.gr.size) (fun e=> ?_);rcases (hV.ow b e).2 with h1|h1
   · exact p3 h1
   · omega
 have hs8:Sx W8 A (.string d.name) (.string d.key) (.string d.worker) (.int .i64 d.n) (.int .i64 d.ticks) pv K id:=⟨(hg.block A hA6 (fun e=>(hoA A e.symm) rfl)).trans hV.de.sx.h⟩;refine ⟨⟨⟨row_set hs8.h 12 _⟩,?_,hAB⟩,?_,?_,fun hne=> ?_,J.SIn.keep (fun _ h=>h) hP2 hV.sn,?_,?_⟩
 · show World.ownsRow _ B 57 5 _ (acc++ [x]).length (R.bindsC (acc++ [x]));rw [R.bindsC_snoc,List.length_append,List.length_singleton,hm];exact World.ownsRow.kept hown (grownBy_set _ A 12 _) (Or.inr fun e=>hgA (Option.some.inj e))
 · refine G2.grown (G2.grown hV.gr hg fun k hk=>Or.inr (hV.ow k hk).2) (grownBy_set _ A 12 _) fun k hk=>Or.inl (Option.some.inj hk).symm
 · rw [e1 X (by omega) hX6 (fun e=>(hV.ow X e).1 rfl)];exact hV.bx
 · obtain ⟨-, -, -, -, -, -, -,hr⟩:=hV.ca (fun h=>by cases h);exact J.T.At.keep (fun _ h=>h) hP2 _ _ _ hr
 · rw [List.length_append,List.length_singleton];have:=h.le;omega
 · intro k hk;obtain rfl:g1=k:=Option.some.inj hk;refine ⟨hgX,?_⟩;rcases hat with h1|h1
   · exact (hV.ow g1 h1).2
   · exact Or.inr (by rw [h1];exact hV.gr.size)
end Go.Proofs.YtohkomndapngjaaGreatDoor

