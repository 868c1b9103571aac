/- value: whatever value stands there. -/
import Derived.Test.YtohkomndapngjaaGreatDoorRC9
import Derived.Test.YtohkomndapngjaaGreatDoorRC10
import Derived.Test.YtohkomndapngjaaGreatDoorRC4
namespace Go.Proofs.YtohkomndapngjaaGreatDoor
set_option maxRecDepth 100000
set_option maxHeartbeats 16000000
open Go.RowKit
open Go.Lib (hid)
abbrev pt6 (w:World) (g:Nat) (c0 c1 c2 c3 c4 c5:Value):World:=(((((w.setCell ⟨g,0,none⟩ c0).setCell ⟨g,1,none⟩ c1).setCell ⟨g,2,none⟩ c2).setCell ⟨g,3,none⟩ c3).setCell ⟨g,4,none⟩ c4).setCell ⟨g,5,none⟩ c5
theorem pt6_row {w:World}{b:Nat}{x0 x1 x2 x3 x4 x5:Value}{t:TypeId}(h:w.heap[b]? =some (.cells #[x0,x1,x2,x3,x4,x5] t (0,0))) (c0 c1 c2 c3 c4 c5:Value):(pt6 w b c0 c1 c2 c3 c4 c5).heap[b]? =some (.cells #[c0,c1,c2,c3,c4,c5] t (0,0)):=
 row_set (row_set (row_set (row_set (row_set (row_set h 0 c0) 1 c1) 2 c2) 3 c3) 4 c4) 5 c5
theorem pt6_below {B:Nat}{a w:World}{b:Nat}(h:Below B a w) (hb:B≤b) (c0 c1 c2 c3 c4 c5:Value):Below B a (pt6 w b c0 c1 c2 c3 c4 c5):=
 (((((h.setCell (p:=⟨b,0,none⟩) hb c0).setCell (p:=⟨b,1,none⟩) hb c1).setCell (p:=⟨b,2,none⟩) hb c2).setCell (p:=⟨b,3,none⟩) hb c3).setCell (p:=⟨b,4,none⟩) hb c4).setCell (p:=⟨b,5,none⟩) hb c5
structure Bx (N R deep:Nat) (k:Int) (lv nv:Value) (W:World):Prop where
 r:W.heap[N]? =some (.cells #[.pointer (some ⟨R,0,none⟩)] 145 (0,0))
 d:W.heap[N+1]? =some (.cells #[.int .i64 deep] 3 (0,0))
 v:W.heap[N+2]? =some (vRow k lv nv)
theorem Bx.kept {N R deep : Nat} {k : Int} {lv nv : Value} {W W' : World} (h : Bx N R deep k lv nv W) (g : W.grownBy W' (some R)) (hR : R < N) : Bx N R deep k lv nv W' :=
 ⟨by rw [g.block _ (Go.lt_of_block h.r) (fun e => by have := Option.some.inj e; omega)]; exact h.r, by rw [g.block _ (Go.lt_of_block h.d) (fun e => by have := Option.some.inj e; omega)]; exact h.d,
  by rw [g.block _ (Go.lt_of_block h.v) (fun e => by have := Option.some.inj e; omega)]; exact h.v⟩
theorem Bx.drew {N R deep:Nat}{k:Int}{lv nv:Value}{W:World}(h:Bx N R deep k lv nv W):Bx N R deep k lv nv W.drew:=⟨h.r,h.d,h.v⟩
theorem from_drew {W W':World}(b:Below W.drew.heap.size W.drew W'):Below W.heap.size W W':=((Below.refl _ W).drew).trans b
theorem Bx.after {N R deep:Nat}{k:Int}{lv nv:Value}{W W':World}(h:Bx N R deep k lv nv W) (b:Below W.heap.size W W'):Bx N R deep k lv nv W':=
 ⟨by rw [b.block _ (Go.lt_of_block h.r)];exact h.r,by rw [b.block _ (Go.lt_of_block h.d)];exact h.d,by rw [b.block _ (Go.lt_of_block h.v)];exact h.v⟩
theorem vcells {N:Nat}{k:Int}{lv nv:Value}{W:World}(h:W.heap[N]? =some (vRow k lv nv)):W.cell? ⟨N,0,none⟩=some (.int .u8 k)∧W.cell? ⟨N,1,none⟩=some (.bool false)∧W.cell? ⟨N,2,none⟩=some (.int .i64 0)∧W.cell? ⟨N,3,none⟩=some (.string ⟨#[]⟩)∧W.cell? ⟨N,4,none⟩=some lv∧W.cell? ⟨N,5,none⟩=some nv:=by
 refine ⟨?_,?_,?_,?_,?_,?_⟩<;>(rw [Lib.cell_of_heap h];rfl)
theorem vfree {N:Nat}{cs:Array Value}{W:World}{T:TypeId}(h:W.heap[N]? =some (.cells cs T (0,0))):W.frozen? ⟨N,0,none⟩=false∧W.frozen? ⟨N,1,none⟩=false∧W.frozen? ⟨N,2,none⟩=false∧W.frozen? ⟨N,3,none⟩=false∧W.frozen? ⟨N,4,none⟩=false∧W.frozen? ⟨N,5,none⟩=false:=
 ⟨Lib.frozen_of_heap h 0,Lib.frozen_of_heap h 1,Lib.frozen_of_heap h 2,Lib.frozen_of_heap h 3,Lib.frozen_of_heap h 4,Lib.frozen_of_heap h 5⟩
theorem has_flat (w:World) (P:Nat→Prop) (k:Nat) (b:Bool) (n:Int) (t:ByteArray):(⟨k,b,n,t,.nil,[]⟩:J.V).Has w P [.int .u8 k,.bool b,.int .i64 n,.string t,.slice none 0 0,.slice none 0 0]:=
 ⟨_,_,rfl,Or.inl ⟨rfl,none,0,rfl,fun _=>rfl⟩,Or.inl ⟨rfl,none,0,rfl,fun _=>rfl⟩⟩
theorem val_ok {W0:World}{R:Nat}{s:ByteArray}{x:J.Res J.V}{k:Nat}{b:Bool}{n:Int}{t:ByteArray}{r:List UInt8}{W WF:World}(hx:x= .ok (⟨k,b,n,t,.nil,[]⟩,r)) (hr:Rdr W0 R s (s.size-r.length) 0 0 W) (hF:Below W0.heap.size W WF):
  ValOf W0 R s x (.returned (.tuple #[.agg #[.int .u8 k,.bool b,.int .i64 n,.string t,.slice none 0 0,.slice none 0 0],.bool true])) WF:=
 Or.inl ⟨_,_,r,_,hx,J.V.loose_refl _,rfl,has_flat _ _ k b n t,hr.under hF (Nat.le_refl _)⟩
theorem val_err {W0:World}{R:Nat}{s:ByteArray}{x:J.Res J.V}{m q:Nat}{er:Int}{cs:List Value}(hcs:Shape cs) {W WF:World}(hx:x= .error (m,er)) (hq:q≤s.size) (hr:Rdr W0 R s q er ((s.size-m:Nat):Int) W) (hF:Below W0.heap.size W WF):
  ValOf W0 R s x (.returned (.tuple #[.agg cs.toArray,.bool false])) WF:=
 Or.inr ⟨m,er,q,cs,hx,hq,rfl,hcs,hr.under hF (Nat.le_refl _)⟩
def TookB (w:World) (R:Nat) (s:ByteArray) (x:J.Res Unit) (bo:Bool) (W:World):Prop:=
 (bo=true∧∃r,x= .ok ((),r)∧Rdr w R s (s.size-r.length) 0 0 W)∨(bo=false∧∃n er q,x= .error (n,er)∧q≤s.size∧Rdr w R s q er ((s.size-n:Nat):Int) W)
theorem took_parts {w W:World}{R:Nat}{s:ByteArray}{x:J.Res Unit}{e:Ending}(h:Took w R s x e W):∃bo,e= .returned (.bool bo)∧TookB w R s x bo W∧w.grownBy W (some R):=by
 rcases h with ⟨r,h1,h2,h3⟩|⟨n,er,q,h1,h2,h3,h4⟩
 · exact ⟨true,h2,Or.inl ⟨rfl,r,h1,h3⟩,h3.g⟩
 · exact ⟨false,h3,Or.inr ⟨rfl,n,er,q,h1,h2,h4⟩,h4.g⟩
theorem val_word {W0 w W:World}{R q:Nat}{s:ByteArray}{x:J.Res J.V}{y:J.Res Unit}{k:Nat}{b bo:Bool}{t:ByteArray}(h0:Rdr W0 R s q 0 0 w) (hy:TookB w R s y bo W) (hx:x=J.on (fun _=>⟨k,b,0,t,.nil,[]⟩) y) {WF:World}(hF:Below W0.heap.size W WF):
   ValOf W0 R s x (.returned (.tuple #[.agg #[.int .u8 k,.bool b,.int .i64 0,.string t,.slice none 0 0,.slice none 0 0],.bool bo])) WF:=by
 rcases hy with ⟨rfl,r,h1,h2⟩|⟨rfl,n,er,q',h1,h2,h3⟩
 · exact val_ok (by rw [hx,h1];rfl) (h0.trans h2) hF
 · exact val_err (cs:= [.int .u8 k,.bool b,.int .i64 0,.string t,.slice none 0 0,.slice none 0 0]) ⟨_,_,_,_,_,_,_,_,_,_,rfl⟩ (by rw [hx,h1];rfl) h2 (h0.trans h3) hF
theorem took_num {w W:World}{R:Nat}{s:ByteArray}{l:List UInt8}{e:Ending}(h:TookN w R s (J.num l) e W):∃(u:Int) (q:Nat) (er x:Int),e= .returned (.int .i64 u)∧Rdr w R s q er x W∧w.grownBy W (some R)∧
   ((er=0∧x=0∧∃r,J.num l= .ok (u,r)∧q=s.size-r.length)∨(er≠0∧q≤s.size∧∃n,J.num l= .error (n,er)∧x=((s.size-n:Nat):Int))):=by
 rcases h with ⟨v,r,h1,h2,h3⟩|⟨n,er,q,u,h1,h2,h3,h4⟩
 · exact ⟨v,_,0,0,h2,h3,h3.g,Or.inl ⟨rfl,rfl,r,h1,rfl⟩⟩
 · exact ⟨u,q,er,_,h3,h4,h4.g,Or.inr ⟨(J.fair_steps (J.num_fair l)).2 n er h1 |>.2,h2,n,h1,rfl⟩⟩
theorem took_text {w W:World}{R:Nat}{s:ByteArray}{x:J.Res (List UInt8)}{e:Ending}(h:TextOf w R s x e W):∃(t:ByteArray) (bo:Bool),e= .returned (.tuple #[.string t,.bool bo])∧w.grownBy W (some R)∧
   ((bo=true∧∃r l,t=⟨l.toArray⟩∧x= .ok (l,r)∧Rdr w R s (s.size-r.length) 0 0 W)∨(bo=false∧∃n er q,x= .error (n,er)∧q≤s.size∧Rdr w R s q er ((s.size-n:Nat):Int) W)):=by
 rcases h with ⟨l,r,h1,h2,h3⟩|⟨n,er,q,h1,h2,h3,h4⟩
 · exact ⟨_,true,h2,h3.g,Or.inl ⟨rfl,r,l,rfl,h1,h3⟩⟩
 · exact ⟨_,false,h3,h4.g,Or.inr ⟨rfl,n,er,q,h1,h2,h4⟩⟩
theorem pt6_other (w:World) (g k:Nat) (c0 c1 c2 c3 c4 c5:Value) (h:k≠g):(pt6 w g c0 c1 c2 c3 c4 c5).heap[k]? =w.heap[k]? :=by
 have ho:∀(u:World) (i:Nat) (x:Value),(u.setCell ⟨g,i,none⟩ x).heap[k]? =u.heap[k]? :=fun u i x=>heap_setCell_other u ⟨g,i,none⟩ k x (fun e=>h (by simp [e]))
 rw [ho,ho,ho,ho,ho,ho]
theorem pt6_size (w:World) (g:Nat) (c0 c1 c2 c3 c4 c5:Value):(pt6 w g c0 c1 c2 c3 c4 c5).heap.size=w.heap.size:=by simp [World.setCell]
theorem own_has {N:Nat}{k:Nat}{t:J.T}{ns:List ByteArray}{W:World}{lv nv:Value}(h:VSt (N+3) (N+2) k t ns W) (hv:W.heap[N+2]? =some (vRow k lv nv)):
  (⟨k,false,0,⟨#[]⟩,t,ns⟩:J.V).Has (pt6 W (N+2) (.int .u8 k) (.bool false) (.int .i64 0) (.string ⟨#[]⟩) lv nv) (Own (pt6 W (N+2) (.int .u8 k) (.bool false) (.int .i64 0) (.string ⟨#[]⟩) lv nv) N none) [.int .u8 k,.bool false,.int .i64 0,.string ⟨#[]⟩,lv,nv]:=by
 obtain ⟨lv',nv',h1,h2⟩:=h.has;rw [hv] at h1;have e:lv'=lv∧nv'=nv:=by
  have:=Option.some.inj h1;simp only [vRow,Obj.cells.injEq,Array.mk.injEq,List.cons.injEq] at this;exact ⟨this.1.2.2.2.2.1.symm,this.1.2.2.2.2.2.1.symm⟩
 obtain ⟨rfl,rfl⟩:=e;have hb:∀b,Own W (N+3) none b→b≠N+2:=fun b hb=>by have:=hb.1;omega
 refine J.V.Has.keep (P:=Own W (N+3) none) ?_ (fun b h=>pt6_other _ _ _ _ _ _ _ _ _ (hb b h)) h2;intro b h;have hne:=hb b h;obtain ⟨h3,h4,h5,cs,T,h6⟩:=h;exact ⟨by omega,by rw [pt6_size];exact h4,h5,cs,T,by rw [pt6_other _ _ _ _ _ _ _ _ _ hne];exact h6⟩
namespace J
theorem val_cons (d:Nat) {l r:List UInt8}{c:UInt8}(h:skip l=c::r):val d l=(if c=110 then on (fun _=>⟨1,false,0,⟨#[]⟩,.nil,[]⟩) (word [110,117,108,108] (c::r))
  else if c=116 then on (fun _=>⟨2,true,0,⟨#[]⟩,.nil,[]⟩) (word [116,114,117,101] (c::r))
  else if c=102 then on (fun _=>⟨2,false,0,⟨#[]⟩,.nil,[]⟩) (word [102,97,108,115,101] (c::r))
  else if c=45∨dig c=true then on (fun n=>⟨3,false,n,⟨#[]⟩,.nil,[]⟩) (num (c::r))
  else if c=34 then on (fun t=>⟨4,false,0,⟨t.toArray⟩,.nil,[]⟩) (text (c::r))
  else if c=91∨c=123 then
   match d with
   | 0=> .error (r.length+1,84)
   | d+1=>inside (val d) (c==123) (c::r)
  else .error (r.length+1,4):Res V):=by
 unfold val;rw [h];rfl
theorem val_nil (d:Nat) {l:List UInt8}(h:skip l= []):val d l= .error (0,4):=by
 unfold val;rw [h]
theorem val_num (d:Nat) {l r:List UInt8}{c:UInt8}(h:skip l=c::r) (hc:c=45∨dig c=true):val d l=on (fun n=>⟨3,false,n,⟨#[]⟩,.nil,[]⟩) (num (c::r)):=by
 have hn:c≠110∧c≠116∧c≠102:=by
  rcases hc with rfl|hc
  · decide
  · have h2:48≤c.toNat∧c.toNat≤57:=by simpa [dig] using hc
    refine ⟨?_,?_,?_⟩<;>(rintro rfl;revert h2;decide)
 rw [val_cons d h,if_neg hn.1,if_neg hn.2.1,if_neg hn.2.2,if_pos hc]
theorem val_text (d:Nat) {l r:List UInt8}(h:skip l=34::r):val d l=on (fun t=>⟨4,false,0,⟨t.toArray⟩,.nil,[]⟩) (text (34::r)):=by rw [val_cons d h];rfl
theorem val_deep {l r:List UInt8}{c:UInt8}(h:skip l=c::r) (hc:c=91∨c=123):val 0 l= .error (r.length+1,84):=by
 rw [val_cons 0 h];rcases hc with rfl|rfl<;>rfl
theorem val_list (d:Nat) {l r:List UInt8}(h:skip l=91::r):val (d+1) l=on (fun p=>⟨5,false,0,⟨#[]⟩,p.1,p.2⟩) (inR (stepL (val d)) 93 (91::r)):=by rw [val_cons (d+1) h,←inside_list];rfl
theorem val_obj (d:Nat) {l r:List UInt8}(h:skip l=123::r):val (d+1) l=on (fun p=>⟨6,false,0,⟨#[]⟩,p.1,p.2⟩) (inR (stepO (val d)) 125 (123::r)):=by rw [val_cons (d+1) h,←inside_obj];rfl
theorem val_bad (d:Nat) {l r:List UInt8}{c:UInt8}(h:skip l=c::r) (h1:c≠110) (h2:c≠116) (h3:c≠102) (h4:c≠45) (h5:dig c=false) (h6:c≠34) (h7:c≠91) (h8:c≠123):val d l= .error (r.length+1,4):=by
 rw [val_cons d h,if_neg h1,if_neg h2,if_neg h3,if_neg (by rw [h5];simp [h4]),if_neg h6,if_neg (by simp [h7,h8])]
end J
theorem value_null {G R:Nat}{s:ByteArray}{d deep:Nat}(_hGR:G≤R) (hs:s.size≤1000000000000) (p:Nat) (w:World) (hR:Rdr w R s p 0 0 w) (hp:p≤s.size) (_hG:Ground G w) (hB0:J.nextB s p=110):
  Calls Tryz.prog 57 #[.pointer (some ⟨R,0,none⟩),.int .i64 deep] w (ValOf w R s (J.val d (s.data.toList.drop p))):=by
 have hlt:=hR.lt;obtain ⟨RES,hRES⟩:∃x,J.val d (s.data.toList.drop p)=x:=⟨_,rfl⟩;rw [hRES];obtain ⟨q,hq⟩:∃q,J.nextP s p=q:=⟨_,rfl⟩;have hqs:q≤s.size:=by rw [←hq];exact J.nextP_le s p
 have hsk:=J.nextP_drop s p;have hN:=next_cases s p;obtain ⟨B,hB⟩:∃B,J.nextB s p=B:=⟨_,rfl⟩;rw [hq] at hN hsk;rw [hB] at hN;have hBv:B=110:=by rw [←hB];exact hB0
 clear hB0;obtain ⟨c,hqlt,hqc,hcs,hcb⟩:∃c,∃h:q<s.size,s[q]'h=c∧J.skip (s.data.toList.drop p)=c::s.data.toList.drop (q+1)∧B=c.toNat:=by
  rcases hN with ⟨_,_,h0⟩|h
  · omega
  · exact h
 have hcr:s.data.toList.drop q=c::s.data.toList.drop (q+1):=by rw [hsk,hcs]
 clear hN;have hc:c=110:=UInt8.toNat_inj.1 (show c.toNat=110 by omega);subst hc;have HRV:Hid (RES=J.on (fun _=>⟨1,false,0,⟨#[]⟩,.nil,[]⟩) (J.word [110,117,108,108] (s.data.toList.drop q))):=by show _=_;rw [←hRES,J.val_cons d hcs,←hcr];rfl
 clear hcs hcr hsk hcb hqc;have t_n:((B:Int)==110)=true:=by rw [beq_iff_eq];omega
 clear hBv;have HRS:=hid hRES;go_enter Tryz.func57,Tryz.ntmps57;go_upto_region 1 with fail;obtain ⟨w3,hw3⟩:∃w3,((w.alloc (.cells #[.pointer (some ⟨R,0,none⟩)] 145)).alloc (.cells #[.int .i64 deep] 3)).alloc (.cells #[.int .u8 0,.bool false,.int .i64 0,.string ⟨#[]⟩,.slice none 0 0,.slice none 0 0] 26)=w3:=⟨_,rfl⟩;have HB3:Hid (Bx w.heap.size R deep 0 (.slice none 0 0) (.slice none 0 0) w3):=by
  show Bx _ _ _ _ _ _ _;rw [←hw3];refine ⟨?_,?_,?_⟩
  · rw [Lib.alloc_old _ _ _ (by simp;omega),Lib.alloc_old _ _ _ (by simp)];exact heap_alloc_new w _
  · rw [Lib.alloc_old _ _ _ (by simp)];have:=heap_alloc_new (w.alloc (.cells #[.pointer (some ⟨R,0,none⟩)] 145)) (.cells #[.int .i64 deep] 3);simpa using this
  · have:=heap_alloc_new ((w.alloc (.cells #[.pointer (some ⟨R,0,none⟩)] 145)).alloc (.cells #[.int .i64 deep] 3)) (.cells #[.int .u8 0,.bool false,.int .i64 0,.string ⟨#[]⟩,.slice none 0 0,.slice none 0 0] 26);rw [show ((w.alloc (.cells #[.pointer (some ⟨R,0,none⟩)] 145)).alloc (.cells #[.int .i64 deep] 3)).heap.size=w.heap.size+2 by simp] at this;exact this
 have HR3:Hid (Rdr w R s p 0 0 w3):=by
  show Rdr _ _ _ _ _ _ _;rw [←hw3];exact ((hR.alloc _).alloc _).alloc _
 rw [hw3];have H33:Hid (w3.heap.size=w.heap.size+3):=by show _=_;rw [←hw3];simp
 clear hw3 hR hRES;have b0:=cell_of_one HB3.out.r;have cN:=next_own HR3.out hp (by omega);rw [hq,hB] at cN;clear hq;go_wp2_with fail;refine cN.mono ?_;rintro e w4 ⟨rfl,hr,hg⟩;have HR4:=hid hr;have HB4:=hid (HB3.out.kept hg hlt);have H43:Hid (w.heap.size+3≤w4.heap.size):=by show _≤_;have:=H33.out;have:=hg.size;omega
 clear hr hg cN HB3 HR3 b0 H33;have b0:=cell_of_one HB4.out.r;have b1:=cell_of_one HB4.out.d;go_upto_region 3 with fail;refine wp_region_till (S:=(fun w':World=>Bx w.heap.size R deep 0 (.slice none 0 0) (.slice none 0 0) w')) 2 (by kernel_rfl) ?_;have HS:=hid (show ((fun w':World=>Bx w.heap.size R deep 0 (.slice none 0 0) (.slice none 0 0) w')) _ from HB4.out.drew);refine tillL 1 [1,2] (v:= ?v1) HS.out ?hy1 ?_
 case hy1=>
  intro w hSw;have b0:=cell_of_one hSw.r;clear hSw;go_simp;try with_reducible rfl
 refine tillD1 0 (fun K hK=> ?step2)
 case step2=>
  go_simp;refine (null_any _).mono ?_;rintro e wA ⟨rfl,hbA⟩;have HBA:=hid (Bx.after HB4.out (from_drew hbA));have HRA:=hid (Rdr.below HR4.out (from_drew hbA));clear hbA;try dsimp only
  refine hK.out _ _ (fun _=>HBA.out) (fun hHeld=> ?_);have HS2:=hid (hHeld (by kernel_rfl));clear hHeld hK K;refine tillD1 2 (fun K hK=> ?step3)
  case step3=>
    go_simp;refine (word_any ⟨#[110,117,108,108]⟩ HRA.out.own hqs (by omega) (by decide)).mono ?_;intro e w6 hen;obtain ⟨bo,rfl,hpar,hg6⟩:=took_parts hen;have HP:=hid hpar;have HB6:=hid (HBA.out.kept hg6 hlt);clear hpar hg6 hen;obtain ⟨v0,v1,v2,v3,v4,v5⟩:=vcells HB6.out.v;obtain ⟨f0,f1,f2,f3,f4,f5⟩:=vfree HB6.out.v;try dsimp only
    refine hK.out _ _ (fun hk=>by cases (show true=false from hk)) (fun _=> ?_);clear hK K;refine tillD1 3 (fun K hK=> ?step4)
    case step4=>
     go_simp;refine hK.out _ _ (fun hk=>by cases (show true=false from hk)) (fun _=> ?_);clear hK K;refine tillA 4 (fun hk=>by cases (show true=false from hk)) ?_;refine wpTill_done (by kernel_rfl) ?_ _;go_wp2_with fail;exact bodyPost_ret (v:= .tuple #[.agg #[.int .u8 1,.bool false,.int .i64 0,.string ⟨#[]⟩,.slice none 0 0,.slice none 0 0],.bool bo]) (results_pair rfl _ _ (w.heap.size+2) 26 #[.int .u8 1,.bool false,.int .i64 0,.string ⟨#[]⟩,.slice none 0 0,.slice none 0 0] (0,0) _ (.bool bo) rfl (pt6_row HB6.out.v _ _ _ _ _ _) rfl Tryz.underlying26 rfl infoJSON) rfl (val_word HRA.out HP.out HRV.out (pt6_below (Below.refl _ _) (by omega) _ _ _ _ _ _))
theorem value_true {G R:Nat}{s:ByteArray}{d deep:Nat}(_hGR:G≤R) (hs:s.size≤1000000000000) (p:Nat) (w:World) (hR:Rdr w R s p 0 0 w) (hp:p≤s.size) (_hG:Ground G w) (hB0:J.nextB s p=116):
  Calls Tryz.prog 57 #[.pointer (some ⟨R,0,none⟩),.int .i64 deep] w (ValOf w R s (J.val d (s.data.toList.drop p))):=by
 have hlt:=hR.lt;obtain ⟨RES,hRES⟩:∃x,J.val d (s.data.toList.drop p)=x:=⟨_,rfl⟩;rw [hRES];obtain ⟨q,hq⟩:∃q,J.nextP s p=q:=⟨_,rfl⟩;have hqs:q≤s.size:=by rw [←hq];exact J.nextP_le s p
 have hsk:=J.nextP_drop s p;have hN:=next_cases s p;obtain ⟨B,hB⟩:∃B,J.nextB s p=B:=⟨_,rfl⟩;rw [hq] at hN hsk;rw [hB] at hN;have hBv:B=116:=by rw [←hB];exact hB0
 clear hB0;obtain ⟨c,hqlt,hqc,hcs,hcb⟩:∃c,∃h:q<s.size,s[q]'h=c∧J.skip (s.data.toList.drop p)=c::s.data.toList.drop (q+1)∧B=c.toNat:=by
  rcases hN with ⟨_,_,h0⟩|h
  · omega
  · exact h
 have hcr:s.data.toList.drop q=c::s.data.toList.drop (q+1):=by rw [hsk,hcs]
 clear hN;have hc:c=116:=UInt8.toNat_inj.1 (show c.toNat=116 by omega);subst hc;have HRV:Hid (RES=J.on (fun _=>⟨2,true,0,⟨#[]⟩,.nil,[]⟩) (J.word [116,114,117,101] (s.data.toList.drop q))):=by show _=_;rw [←hRES,J.val_cons d hcs,←hcr];rfl
 clear hcs hcr hsk hcb hqc;have t_n:((B:Int)==110)=false:=beq_eq_false_iff_ne.2 (by omega);have t_t:((B:Int)==116)=true:=by rw [beq_iff_eq];omega
 clear hBv;have HRS:=hid hRES;go_enter Tryz.func57,Tryz.ntmps57;go_upto_region 1 with fail;obtain ⟨w3,hw3⟩:∃w3,((w.alloc (.cells #[.pointer (some ⟨R,0,none⟩)] 145)).alloc (.cells #[.int .i64 deep] 3)).alloc (.cells #[.int .u8 0,.bool false,.int .i64 0,.string ⟨#[]⟩,.slice none 0 0,.slice none 0 0] 26)=w3:=⟨_,rfl⟩;have HB3:Hid (Bx w.heap.size R deep 0 (.slice none 0 0) (.slice none 0 0) w3):=by
  show Bx _ _ _ _ _ _ _;rw [←hw3];refine ⟨?_,?_,?_⟩
  · rw [Lib.alloc_old _ _ _ (by simp;omega),Lib.alloc_old _ _ _ (by simp)];exact heap_alloc_new w _
  · rw [Lib.alloc_old _ _ _ (by simp)];have:=heap_alloc_new (w.alloc (.cells #[.pointer (some ⟨R,0,none⟩)] 145)) (.cells #[.int .i64 deep] 3);simpa using this
  · have:=heap_alloc_new ((w.alloc (.cells #[.pointer (some ⟨R,0,none⟩)] 145)).alloc (.cells #[.int .i64 deep] 3)) (.cells #[.int .u8 0,.bool false,.int .i64 0,.string ⟨#[]⟩,.slice none 0 0,.slice none 0 0] 26);rw [show ((w.alloc (.cells #[.pointer (some ⟨R,0,none⟩)] 145)).alloc (.cells #[.int .i64 deep] 3)).heap.size=w.heap.size+2 by simp] at this;exact this
 have HR3:Hid (Rdr w R s p 0 0 w3):=by
  show Rdr _ _ _ _ _ _ _;rw [←hw3];exact ((hR.alloc _).alloc _).alloc _
 rw [hw3];have H33:Hid (w3.heap.size=w.heap.size+3):=by show _=_;rw [←hw3];simp
 clear hw3 hR hRES;have b0:=cell_of_one HB3.out.r;have cN:=next_own HR3.out hp (by omega);rw [hq,hB] at cN;clear hq;go_wp2_with fail;refine cN.mono ?_;rintro e w4 ⟨rfl,hr,hg⟩;have HR4:=hid hr;have HB4:=hid (HB3.out.kept hg hlt);have H43:Hid (w.heap.size+3≤w4.heap.size):=by show _≤_;have:=H33.out;have:=hg.size;omega
 clear hr hg cN HB3 HR3 b0 H33;have b0:=cell_of_one HB4.out.r;have b1:=cell_of_one HB4.out.d;go_upto_region 5 with fail;refine wp_region_till (S:=(fun w':World=>Bx w.heap.size R deep 0 (.slice none 0 0) (.slice none 0 0) w')) 7 (by kernel_rfl) ?_;have HS:=hid (show ((fun w':World=>Bx w.heap.size R deep 0 (.slice none 0 0) (.slice none 0 0) w')) _ from HB4.out.drew);refine tillA 0 (fun _=>HS.out) ?_;refine tillA 1 (fun _=>HS.out) ?_;refine tillA 4 (fun _=>HS.out) ?_;refine tillA 5 (fun _=>HS.out) ?_;refine tillL 3 [3,7] (v:= ?v10) HS.out ?hy10 ?_
 case hy10=>
  intro w hSw;have b0:=cell_of_one hSw.r;clear hSw;go_simp;try with_reducible rfl
 refine tillD1 2 (fun K hK=> ?step11)
 case step11=>
  go_simp;refine (yes_any true _).mono ?_;rintro e wA ⟨rfl,hbA⟩;have HBA:=hid (Bx.after HB4.out (from_drew hbA));have HRA:=hid (Rdr.below HR4.out (from_drew hbA));clear hbA;try dsimp only
  refine hK.out _ _ (fun _=>HBA.out) (fun hHeld=> ?_);have HS11:=hid (hHeld (by kernel_rfl));clear hHeld hK K;refine tillD1 6 (fun K hK=> ?step12)
  case step12=>
    go_simp;refine (Tryz.strconv_FormatBool _ _).mono ?_;rintro e wC ⟨rfl,hwC⟩;obtain rfl:wC=wA:=hwC;try dsimp only
    refine hK.out _ _ (fun _=>HBA.out) (fun hHeld=> ?_);have HS12:=hid (hHeld (by kernel_rfl));clear hHeld hK K;refine tillD1 7 (fun K hK=> ?step13)
    case step13=>
     go_simp;refine (word_any ⟨#[116,114,117,101]⟩ HRA.out.own hqs (by omega) (by decide)).mono ?_;intro e w6 hen;obtain ⟨bo,rfl,hpar,hg6⟩:=took_parts hen;have HP:=hid hpar;have HB6:=hid (HBA.out.kept hg6 hlt);clear hpar hg6 hen;obtain ⟨v0,v1,v2,v3,v4,v5⟩:=vcells HB6.out.v;obtain ⟨f0,f1,f2,f3,f4,f5⟩:=vfree HB6.out.v;try dsimp only
     refine hK.out _ _ (fun hk=>by cases (show true=false from hk)) (fun _=> ?_);clear hK K;refine tillD1 8 (fun K hK=> ?step14)
     case step14=>
      go_simp;refine hK.out _ _ (fun hk=>by cases (show true=false from hk)) (fun _=> ?_);clear hK K;refine tillA 9 (fun hk=>by cases (show true=false from hk)) ?_;refine wpTill_done (by kernel_rfl) ?_ _;go_wp2_with fail;exact bodyPost_ret (v:= .tuple #[.agg #[.int .u8 2,.bool true,.int .i64 0,.string ⟨#[]⟩,.slice none 0 0,.slice none 0 0],.bool bo]) (results_pair rfl _ _ (w.heap.size+2) 26 #[.int .u8 2,.bool true,.int .i64 0,.string ⟨#[]⟩,.slice none 0 0,.slice none 0 0] (0,0) _ (.bool bo) rfl (pt6_row HB6.out.v _ _ _ _ _ _) rfl Tryz.underlying26 rfl infoJSON) rfl (val_word HRA.out HP.out HRV.out (pt6_below (Below.refl _ _) (by omega) _ _ _ _ _ _))
theorem value_false {G R:Nat}{s:ByteArray}{d deep:Nat}(_hGR:G≤R) (hs:s.size≤1000000000000) (p:Nat) (w:World) (hR:Rdr w R s p 0 0 w) (hp:p≤s.size) (_hG:Ground G w) (hB0:J.nextB s p=102):
  Calls Tryz.prog 57 #[.pointer (some ⟨R,0,none⟩),.int .i64 deep] w (ValOf w R s (J.val d (s.data.toList.drop p))):=by
 have hlt:=hR.lt;obtain ⟨RES,hRES⟩:∃x,J.val d (s.data.toList.drop p)=x:=⟨_,rfl⟩;rw [hRES];obtain ⟨q,hq⟩:∃q,J.nextP s p=q:=⟨_,rfl⟩;have hqs:q≤s.size:=by rw [←hq];exact J.nextP_le s p
 have hsk:=J.nextP_drop s p;have hN:=next_cases s p;obtain ⟨B,hB⟩:∃B,J.nextB s p=B:=⟨_,rfl⟩;rw [hq] at hN hsk;rw [hB] at hN;have hBv:B=102:=by rw [←hB];exact hB0
 clear hB0;obtain ⟨c,hqlt,hqc,hcs,hcb⟩:∃c,∃h:q<s.size,s[q]'h=c∧J.skip (s.data.toList.drop p)=c::s.data.toList.drop (q+1)∧B=c.toNat:=by
  rcases hN with ⟨_,_,h0⟩|h
  · omega
  · exact h
 have hcr:s.data.toList.drop q=c::s.data.toList.drop (q+1):=by rw [hsk,hcs]
 clear hN;have hc:c=102:=UInt8.toNat_inj.1 (show c.toNat=102 by omega);subst hc;have HRV:Hid (RES=J.on (fun _=>⟨2,false,0,⟨#[]⟩,.nil,[]⟩) (J.word [102,97,108,115,101] (s.data.toList.drop q))):=by show _=_;rw [←hRES,J.val_cons d hcs,←hcr];rfl
 clear hcs hcr hsk hcb hqc;have t_n:((B:Int)==110)=false:=beq_eq_false_iff_ne.2 (by omega);have t_t:((B:Int)==116)=false:=beq_eq_false_iff_ne.2 (by omega);have t_f:((B:Int)==102)=true:=by rw [beq_iff_eq];omega
 clear hBv;have HRS:=hid hRES;go_enter Tryz.func57,Tryz.ntmps57;go_upto_region 1 with fail;obtain ⟨w3,hw3⟩:∃w3,((w.alloc (.cells #[.pointer (some ⟨R,0,none⟩)] 145)).alloc (.cells #[.int .i64 deep] 3)).alloc (.cells #[.int .u8 0,.bool false,.int .i64 0,.string ⟨#[]⟩,.slice none 0 0,.slice none 0 0] 26)=w3:=⟨_,rfl⟩;have HB3:Hid (Bx w.heap.size R deep 0 (.slice none 0 0) (.slice none 0 0) w3):=by
  show Bx _ _ _ _ _ _ _;rw [←hw3];refine ⟨?_,?_,?_⟩
  · rw [Lib.alloc_old _ _ _ (by simp;omega),Lib.alloc_old _ _ _ (by simp)];exact heap_alloc_new w _
  · rw [Lib.alloc_old _ _ _ (by simp)];have:=heap_alloc_new (w.alloc (.cells #[.pointer (some ⟨R,0,none⟩)] 145)) (.cells #[.int .i64 deep] 3);simpa using this
  · have:=heap_alloc_new ((w.alloc (.cells #[.pointer (some ⟨R,0,none⟩)] 145)).alloc (.cells #[.int .i64 deep] 3)) (.cells #[.int .u8 0,.bool false,.int .i64 0,.string ⟨#[]⟩,.slice none 0 0,.slice none 0 0] 26);rw [show ((w.alloc (.cells #[.pointer (some ⟨R,0,none⟩)] 145)).alloc (.cells #[.int .i64 deep] 3)).heap.size=w.heap.size+2 by simp] at this;exact this
 have HR3:Hid (Rdr w R s p 0 0 w3):=by
  show Rdr _ _ _ _ _ _ _;rw [←hw3];exact ((hR.alloc _).alloc _).alloc _
 rw [hw3];have H33:Hid (w3.heap.size=w.heap.size+3):=by show _=_;rw [←hw3];simp
 clear hw3 hR hRES;have b0:=cell_of_one HB3.out.r;have cN:=next_own HR3.out hp (by omega);rw [hq,hB] at cN;clear hq;go_wp2_with fail;refine cN.mono ?_;rintro e w4 ⟨rfl,hr,hg⟩;have HR4:=hid hr;have HB4:=hid (HB3.out.kept hg hlt);have H43:Hid (w.heap.size+3≤w4.heap.size):=by show _≤_;have:=H33.out;have:=hg.size;omega
 clear hr hg cN HB3 HR3 b0 H33;have b0:=cell_of_one HB4.out.r;have b1:=cell_of_one HB4.out.d;go_upto_region 5 with fail;refine wp_region_till (S:=(fun w':World=>Bx w.heap.size R deep 0 (.slice none 0 0) (.slice none 0 0) w')) 7 (by kernel_rfl) ?_;have HS:=hid (show ((fun w':World=>Bx w.heap.size R deep 0 (.slice none 0 0) (.slice none 0 0) w')) _ from HB4.out.drew);refine tillA 0 (fun _=>HS.out) ?_;refine tillA 1 (fun _=>HS.out) ?_;refine tillA 4 (fun _=>HS.out) ?_;refine tillA 5 (fun _=>HS.out) ?_;refine tillL 3 [3,7] (v:= ?v20) HS.out ?hy20 ?_
 case hy20=>
  intro w hSw;have b0:=cell_of_one hSw.r;clear hSw;go_simp;try with_reducible rfl
 refine tillD1 2 (fun K hK=> ?step21)
 case step21=>
  go_simp;refine (yes_any false _).mono ?_;rintro e wA ⟨rfl,hbA⟩;have HBA:=hid (Bx.after HB4.out (from_drew hbA));have HRA:=hid (Rdr.below HR4.out (from_drew hbA));clear hbA;try dsimp only
  refine hK.out _ _ (fun _=>HBA.out) (fun hHeld=> ?_);have HS21:=hid (hHeld (by kernel_rfl));clear hHeld hK K;refine tillD1 6 (fun K hK=> ?step22)
  case step22=>
    go_simp;refine (Tryz.strconv_FormatBool _ _).mono ?_;rintro e wC ⟨rfl,hwC⟩;obtain rfl:wC=wA:=hwC;try dsimp only
    refine hK.out _ _ (fun _=>HBA.out) (fun hHeld=> ?_);have HS22:=hid (hHeld (by kernel_rfl));clear hHeld hK K;refine tillD1 7 (fun K hK=> ?step23)
    case step23=>
     go_simp;refine (word_any ⟨#[102,97,108,115,101]⟩ HRA.out.own hqs (by omega) (by decide)).mono ?_;intro e w6 hen;obtain ⟨bo,rfl,hpar,hg6⟩:=took_parts hen;have HP:=hid hpar;have HB6:=hid (HBA.out.kept hg6 hlt);clear hpar hg6 hen;obtain ⟨v0,v1,v2,v3,v4,v5⟩:=vcells HB6.out.v;obtain ⟨f0,f1,f2,f3,f4,f5⟩:=vfree HB6.out.v;try dsimp only
     refine hK.out _ _ (fun hk=>by cases (show true=false from hk)) (fun _=> ?_);clear hK K;refine tillD1 8 (fun K hK=> ?step24)
     case step24=>
      go_simp;refine hK.out _ _ (fun hk=>by cases (show true=false from hk)) (fun _=> ?_);clear hK K;refine tillA 9 (fun hk=>by cases (show true=false from hk)) ?_;refine wpTill_done (by kernel_rfl) ?_ _;go_wp2_with fail;exact bodyPost_ret (v:= .tuple #[.agg #[.int .u8 2,.bool false,.int .i64 0,.string ⟨#[]⟩,.slice none 0 0,.slice none 0 0],.bool bo]) (results_pair rfl _ _ (w.heap.size+2) 26 #[.int .u8 2,.bool false,.int .i64 0,.string ⟨#[]⟩,.slice none 0 0,.slice none 0 0] (0,0) _ (.bool bo) rfl (pt6_row HB6.out.v _ _ _ _ _ _) rfl Tryz.underlying26 rfl infoJSON) rfl (val_word HRA.out HP.out HRV.out (pt6_below (Below.refl _ _) (by omega) _ _ _ _ _ _))
theorem val_num_end {W0 w W:World}{R q q5:Nat}{s:ByteArray}{x:J.Res J.V}{l:List UInt8}{u er x5:Int}(h0:Rdr W0 R s q 0 0 w) (h:Rdr w R s q5 er x5 W) (hp:(er=0∧x5=0∧∃r,J.num l= .ok (u,r)∧q5=s.size-r.length)∨(er≠0∧q5≤s.size∧∃n,J.num l= .error (n,er)∧x5=((s.size-n:Nat):Int)))
   (hx:x=J.on (fun n=>⟨3,false,n,⟨#[]⟩,.nil,[]⟩) (J.num l)) {WF:World}(hF:Below W0.heap.size W WF):ValOf W0 R s x (.returned (.tuple #[.agg #[.int .u8 3,.bool false,.int .i64 u,.string ⟨#[]⟩,.slice none 0 0,.slice none 0 0],.bool (er==0)])) WF:=by
 rcases hp with ⟨rfl,rfl,r,h1,rfl⟩|⟨hne,h2,n,h1,rfl⟩
 · exact val_ok (k:=3) (by rw [hx,h1];rfl) (h0.trans h) hF
 · rw [show (er==0)=false from beq_eq_false_iff_ne.2 hne];exact val_err (cs:= [.int .u8 3,.bool false,.int .i64 u,.string ⟨#[]⟩,.slice none 0 0,.slice none 0 0]) ⟨_,_,_,_,_,_,_,_,_,_,rfl⟩ (by rw [hx,h1];rfl) h2 (h0.trans h) hF
theorem val_text_end {W0 w W:World}{R q:Nat}{s:ByteArray}{x:J.Res J.V}{y:J.Res (List UInt8)}{t:ByteArray}{bo:Bool}(h0:Rdr W0 R s q 0 0 w) (hp:(bo=true∧∃r l,t=⟨l.toArray⟩∧y= .ok (l,r)∧Rdr w R s (s.size-r.length) 0 0 W)∨(bo=false∧∃n er q,y= .error (n,er)∧q≤s.size∧Rdr w R s q er ((s.size-n:Nat):Int) W))
   (hx:x=J.on (fun t=>⟨4,false,0,⟨t.toArray⟩,.nil,[]⟩) y) {WF:World}(hF:Below W0.heap.size W WF):ValOf W0 R s x (.returned (.tuple #[.agg #[.int .u8 4,.bool false,.int .i64 0,.string t,.slice none 0 0,.slice none 0 0],.bool bo])) WF:=by
 rcases hp with ⟨rfl,r,l,rfl,h1,h2⟩|⟨rfl,n,er,q',h1,h2,h3⟩
 · exact val_ok (k:=4) (by rw [hx,h1];rfl) (h0.trans h2) hF
 · exact val_err (cs:= [.int .u8 4,.bool false,.int .i64 0,.string t,.slice none 0 0,.slice none 0 0]) ⟨_,_,_,_,_,_,_,_,_,_,rfl⟩ (by rw [hx,h1];rfl) h2 (h0.trans h3) hF
theorem value_neg {G R:Nat}{s:ByteArray}{d deep:Nat}(hGR:G≤R) (hs:s.size≤1000000000000) (p:Nat) (w:World) (hR:Rdr w R s p 0 0 w) (hp:p≤s.size) (hG:Ground G w) (hB0:J.nextB s p=45):
  Calls Tryz.prog 57 #[.pointer (some ⟨R,0,none⟩),.int .i64 deep] w (ValOf w R s (J.val d (s.data.toList.drop p))):=by
 have hlt:=hR.lt;obtain ⟨RES,hRES⟩:∃x,J.val d (s.data.toList.drop p)=x:=⟨_,rfl⟩;rw [hRES];obtain ⟨q,hq⟩:∃q,J.nextP s p=q:=⟨_,rfl⟩;have hqs:q≤s.size:=by rw [←hq];exact J.nextP_le s p
 have hsk:=J.nextP_drop s p;have hN:=next_cases s p;obtain ⟨B,hB⟩:∃B,J.nextB s p=B:=⟨_,rfl⟩;rw [hq] at hN hsk;rw [hB] at hN;have hBv:B=45:=by rw [←hB];exact hB0
 clear hB0;obtain ⟨c,hqlt,hqc,hcs,hcb⟩:∃c,∃h:q<s.size,s[q]'h=c∧J.skip (s.data.toList.drop p)=c::s.data.toList.drop (q+1)∧B=c.toNat:=by
  rcases hN with ⟨_,_,h0⟩|h
  · omega
  · exact h
 have hcr:s.data.toList.drop q=c::s.data.toList.drop (q+1):=by rw [hsk,hcs]
 clear hN;have HRV:Hid (RES=J.on (fun n=>⟨3,false,n,⟨#[]⟩,.nil,[]⟩) (J.num (s.data.toList.drop q))):=by show _=_;rw [←hRES,J.val_num d hcs (Or.inl (UInt8.toNat_inj.1 (show c.toNat=45 by omega))),←hcr]
 clear hcs hcr hsk hqc;have t_n:((B:Int)==110)=false:=beq_eq_false_iff_ne.2 (by omega);have t_t:((B:Int)==116)=false:=beq_eq_false_iff_ne.2 (by omega);have t_f:((B:Int)==102)=false:=beq_eq_false_iff_ne.2 (by omega);have t_m:((B:Int)==45)=true:=by rw [beq_iff_eq];omega
 clear hBv hcb;have HRS:=hid hRES;go_enter Tryz.func57,Tryz.ntmps57;go_upto_region 1 with fail;obtain ⟨w3,hw3⟩:∃w3,((w.alloc (.cells #[.pointer (some ⟨R,0,none⟩)] 145)).alloc (.cells #[.int .i64 deep] 3)).alloc (.cells #[.int .u8 0,.bool false,.int .i64 0,.string ⟨#[]⟩,.slice none 0 0,.slice none 0 0] 26)=w3:=⟨_,rfl⟩;have HB3:Hid (Bx w.heap.size R deep 0 (.slice none 0 0) (.slice none 0 0) w3):=by
  show Bx _ _ _ _ _ _ _;rw [←hw3];refine ⟨?_,?_,?_⟩
  · rw [Lib.alloc_old _ _ _ (by simp;omega),Lib.alloc_old _ _ _ (by simp)];exact heap_alloc_new w _
  · rw [Lib.alloc_old _ _ _ (by simp)];have:=heap_alloc_new (w.alloc (.cells #[.pointer (some ⟨R,0,none⟩)] 145)) (.cells #[.int .i64 deep] 3);simpa using this
  · have:=heap_alloc_new ((w.alloc (.cells #[.pointer (some ⟨R,0,none⟩)] 145)).alloc (.cells #[.int .i64 deep] 3)) (.cells #[.int .u8 0,.bool false,.int .i64 0,.string ⟨#[]⟩,.slice none 0 0,.slice none 0 0] 26);rw [show ((w.alloc (.cells #[.pointer (some ⟨R,0,none⟩)] 145)).alloc (.cells #[.int .i64 deep] 3)).heap.size=w.heap.size+2 by simp] at this;exact this
 have HR3:Hid (Rdr w R s p 0 0 w3):=by
  show Rdr _ _ _ _ _ _ _;rw [←hw3];exact ((hR.alloc _).alloc _).alloc _
 rw [hw3];have H33:Hid (w3.heap.size=w.heap.size+3):=by show _=_;rw [←hw3];simp
 clear hw3 hR hRES;have b0:=cell_of_one HB3.out.r;have cN:=next_own HR3.out hp (by omega);rw [hq,hB] at cN;clear hq;go_wp2_with fail;refine cN.mono ?_;rintro e w4 ⟨rfl,hr,hg⟩;have HR4:=hid hr;have HB4:=hid (HB3.out.kept hg hlt);have H43:Hid (w.heap.size+3≤w4.heap.size):=by show _≤_;have:=H33.out;have:=hg.size;omega
 clear hr hg cN HB3 HR3 b0 H33;have b0:=cell_of_one HB4.out.r;have b1:=cell_of_one HB4.out.d;have cM:=number_any HR4.out.own hqlt (by omega) (hG.keep (HR4.out.base hGR)) hGR;go_wp2_with fail;refine cM.mono ?_;intro e w5 hen;obtain ⟨u,q5,er,x5,rfl,hr5,hg5,hpar⟩:=took_num hen;have HR5:=hid hr5;have HB5:=hid (HB4.out.kept hg5 hlt);have HP:=hid hpar;clear hen hr5 hg5 hpar cM b0 b1;go_upto_region 8 with fail;refine wp_region_till (S:=(fun w':World=>Bx w.heap.size R deep 0 (.slice none 0 0) (.slice none 0 0) w'∧w'.heap[R]? =some (rdRow s q5 er x5))) 7 (by kernel_rfl) ?_;have HS:=hid (show ((fun w':World=>Bx w.heap.size R deep 0 (.slice none 0 0) (.slice none 0 0) w'∧w'.heap[R]? =some (rdRow s q5 er x5))) _ from ⟨HB5.out.drew,HR5.out.r⟩);refine tillA 0 (fun _=>HS.out) ?_;refine tillL 2 [2,3,4,5,7] (v:= ?v27) HS.out ?hy27 ?_
 case hy27=>
  intro w hSw;have b0:=cell_of_one hSw.1.r;clear hSw;go_simp;try with_reducible rfl
 refine tillA 3 (fun _=>HS.out) ?_;refine tillA 4 (fun _=>HS.out) ?_;refine tillL 5 [5,7] (v:= ?v30) HS.out ?hy30 ?_
 case hy30=>
  intro w hSw;have b2:w.cell? ⟨R,2,none⟩=some (.int .i64 er):=by rw [Lib.cell_of_heap hSw.2];rfl
  clear hSw;go_simp;try with_reducible rfl
 refine tillA 6 (fun _=>HS.out) ?_;refine tillD1 1 (fun K hK=> ?step32)
 case step32=>
  go_simp;refine (int_any _ _).mono ?_;rintro e wA ⟨rfl,hbA⟩;have HBA:=hid (Bx.after HB5.out (from_drew hbA));have HRA:=hid (Rdr.below HR5.out (from_drew hbA));clear hbA;obtain ⟨v0,v1,v2,v3,v4,v5⟩:=vcells HBA.out.v;obtain ⟨f0,f1,f2,f3,f4,f5⟩:=vfree HBA.out.v;try dsimp only
  refine hK.out _ _ (fun _=>⟨HBA.out,HRA.out.r⟩) (fun hHeld=> ?_);have HS32:=hid (hHeld (by kernel_rfl));clear hHeld hK K;refine tillD1 7 (fun K hK=> ?step33)
  case step33=>
    go_simp;refine hK.out _ _ (fun hk=>by cases (show true=false from hk)) (fun _=> ?_);clear hK K;refine tillA 8 (fun hk=>by cases (show true=false from hk)) ?_;refine wpTill_done (by kernel_rfl) ?_ _;go_wp2_with fail;exact bodyPost_ret (v:= .tuple #[.agg #[.int .u8 3,.bool false,.int .i64 u,.string ⟨#[]⟩,.slice none 0 0,.slice none 0 0],.bool (er==0)]) (results_pair rfl _ _ (w.heap.size+2) 26 #[.int .u8 3,.bool false,.int .i64 u,.string ⟨#[]⟩,.slice none 0 0,.slice none 0 0] (0,0) _ (.bool (er==0)) rfl (pt6_row HBA.out.v _ _ _ _ _ _) rfl Tryz.underlying26 rfl infoJSON) rfl (val_num_end HR4.out HRA.out HP.out HRV.out (pt6_below (Below.refl _ _) (by omega) _ _ _ _ _ _))
theorem value_dig {G R:Nat}{s:ByteArray}{d deep:Nat}(hGR:G≤R) (hs:s.size≤1000000000000) (p:Nat) (w:World) (hR:Rdr w R s p 0 0 w) (hp:p≤s.size) (hG:Ground G w) (hB0:48≤J.nextB s p∧J.nextB s p≤57):
  Calls Tryz.prog 57 #[.pointer (some ⟨R,0,none⟩),.int .i64 deep] w (ValOf w R s (J.val d (s.data.toList.drop p))):=by
 have hlt:=hR.lt;obtain ⟨RES,hRES⟩:∃x,J.val d (s.data.toList.drop p)=x:=⟨_,rfl⟩;rw [hRES];obtain ⟨q,hq⟩:∃q,J.nextP s p=q:=⟨_,rfl⟩;have hqs:q≤s.size:=by rw [←hq];exact J.nextP_le s p
 have hsk:=J.nextP_drop s p;have hN:=next_cases s p;obtain ⟨B,hB⟩:∃B,J.nextB s p=B:=⟨_,rfl⟩;rw [hq] at hN hsk;rw [hB] at hN;have hBv:48≤B∧B≤57:=by rw [←hB];exact hB0
 clear hB0;obtain ⟨c,hqlt,hqc,hcs,hcb⟩:∃c,∃h:q<s.size,s[q]'h=c∧J.skip (s.data.toList.drop p)=c::s.data.toList.drop (q+1)∧B=c.toNat:=by
  rcases hN with ⟨_,_,h0⟩|h
  · omega
  · exact h
 have hcr:s.data.toList.drop q=c::s.data.toList.drop (q+1):=by rw [hsk,hcs]
 clear hN;have HRV:Hid (RES=J.on (fun n=>⟨3,false,n,⟨#[]⟩,.nil,[]⟩) (J.num (s.data.toList.drop q))):=by show _=_;rw [←hRES,J.val_num d hcs (Or.inr (by simp only [J.dig,decide_eq_true_eq];omega)),←hcr]
 clear hcs hcr hsk hqc;have t_n:((B:Int)==110)=false:=beq_eq_false_iff_ne.2 (by omega);have t_t:((B:Int)==116)=false:=beq_eq_false_iff_ne.2 (by omega);have t_f:((B:Int)==102)=false:=beq_eq_false_iff_ne.2 (by omega);have t_m:((B:Int)==45)=false:=beq_eq_false_iff_ne.2 (by omega);have t_ge:decide ((48:Int)≤(B:Int))=true:=decide_eq_true (by omega);have t_le:decide ((B:Int)≤57)=true:=decide_eq_true (by omega);clear hBv hcb;have HRS:=hid hRES;go_enter Tryz.func57,Tryz.ntmps57;go_upto_region 1 with fail;obtain ⟨w3,hw3⟩:∃w3,((w.alloc (.cells #[.pointer (some ⟨R,0,none⟩)] 145)).alloc (.cells #[.int .i64 deep] 3)).alloc (.cells #[.int .u8 0,.bool false,.int .i64 0,.string ⟨#[]⟩,.slice none 0 0,.slice none 0 0] 26)=w3:=⟨_,rfl⟩;have HB3:Hid (Bx w.heap.size R deep 0 (.slice none 0 0) (.slice none 0 0) w3):=by
  show Bx _ _ _ _ _ _ _;rw [←hw3];refine ⟨?_,?_,?_⟩
  · rw [Lib.alloc_old _ _ _ (by simp;omega),Lib.alloc_old _ _ _ (by simp)];exact heap_alloc_new w _
  · rw [Lib.alloc_old _ _ _ (by simp)];have:=heap_alloc_new (w.alloc (.cells #[.pointer (some ⟨R,0,none⟩)] 145)) (.cells #[.int .i64 deep] 3);simpa using this
  · have:=heap_alloc_new ((w.alloc (.cells #[.pointer (some ⟨R,0,none⟩)] 145)).alloc (.cells #[.int .i64 deep] 3)) (.cells #[.int .u8 0,.bool false,.int .i64 0,.string ⟨#[]⟩,.slice none 0 0,.slice none 0 0] 26);rw [show ((w.alloc (.cells #[.pointer (some ⟨R,0,none⟩)] 145)).alloc (.cells #[.int .i64 deep] 3)).heap.size=w.heap.size+2 by simp] at this;exact this
 have HR3:Hid (Rdr w R s p 0 0 w3):=by
  show Rdr _ _ _ _ _ _ _;rw [←hw3];exact ((hR.alloc _).alloc _).alloc _
 rw [hw3];have H33:Hid (w3.heap.size=w.heap.size+3):=by show _=_;rw [←hw3];simp
 clear hw3 hR hRES;have b0:=cell_of_one HB3.out.r;have cN:=next_own HR3.out hp (by omega);rw [hq,hB] at cN;clear hq;go_wp2_with fail;refine cN.mono ?_;rintro e w4 ⟨rfl,hr,hg⟩;have HR4:=hid hr;have HB4:=hid (HB3.out.kept hg hlt);have H43:Hid (w.heap.size+3≤w4.heap.size):=by show _≤_;have:=H33.out;have:=hg.size;omega
 clear hr hg cN HB3 HR3 b0 H33;have b0:=cell_of_one HB4.out.r;have b1:=cell_of_one HB4.out.d;have cM:=number_any HR4.out.own hqlt (by omega) (hG.keep (HR4.out.base hGR)) hGR;go_wp2_with fail;refine cM.mono ?_;intro e w5 hen;obtain ⟨u,q5,er,x5,rfl,hr5,hg5,hpar⟩:=took_num hen;have HR5:=hid hr5;have HB5:=hid (HB4.out.kept hg5 hlt);have HP:=hid hpar;clear hen hr5 hg5 hpar cM b0 b1;go_upto_region 8 with fail;refine wp_region_till (S:=(fun w':World=>Bx w.heap.size R deep 0 (.slice none 0 0) (.slice none 0 0) w'∧w'.heap[R]? =some (rdRow s q5 er x5))) 7 (by kernel_rfl) ?_;have HS:=hid (show ((fun w':World=>Bx w.heap.size R deep 0 (.slice none 0 0) (.slice none 0 0) w'∧w'.heap[R]? =some (rdRow s q5 er x5))) _ from ⟨HB5.out.drew,HR5.out.r⟩);refine tillA 0 (fun _=>HS.out) ?_;refine tillL 2 [2,3,4,5,7] (v:= ?v36) HS.out ?hy36 ?_
 case hy36=>
  intro w hSw;have b0:=cell_of_one hSw.1.r;clear hSw;go_simp;try with_reducible rfl
 refine tillA 3 (fun _=>HS.out) ?_;refine tillA 4 (fun _=>HS.out) ?_;refine tillL 5 [5,7] (v:= ?v39) HS.out ?hy39 ?_
 case hy39=>
  intro w hSw;have b2:w.cell? ⟨R,2,none⟩=some (.int .i64 er):=by rw [Lib.cell_of_heap hSw.2];rfl
  clear hSw;go_simp;try with_reducible rfl
 refine tillA 6 (fun _=>HS.out) ?_;refine tillD1 1 (fun K hK=> ?step41)
 case step41=>
  go_simp;refine (int_any _ _).mono ?_;rintro e wA ⟨rfl,hbA⟩;have HBA:=hid (Bx.after HB5.out (from_drew hbA));have HRA:=hid (Rdr.below HR5.out (from_drew hbA));clear hbA;obtain ⟨v0,v1,v2,v3,v4,v5⟩:=vcells HBA.out.v;obtain ⟨f0,f1,f2,f3,f4,f5⟩:=vfree HBA.out.v;try dsimp only
  refine hK.out _ _ (fun _=>⟨HBA.out,HRA.out.r⟩) (fun hHeld=> ?_);have HS41:=hid (hHeld (by kernel_rfl));clear hHeld hK K;refine tillD1 7 (fun K hK=> ?step42)
  case step42=>
    go_simp;refine hK.out _ _ (fun hk=>by cases (show true=false from hk)) (fun _=> ?_);clear hK K;refine tillA 8 (fun hk=>by cases (show true=false from hk)) ?_;refine wpTill_done (by kernel_rfl) ?_ _;go_wp2_with fail;exact bodyPost_ret (v:= .tuple #[.agg #[.int .u8 3,.bool false,.int .i64 u,.string ⟨#[]⟩,.slice none 0 0,.slice none 0 0],.bool (er==0)]) (results_pair rfl _ _ (w.heap.size+2) 26 #[.int .u8 3,.bool false,.int .i64 u,.string ⟨#[]⟩,.slice none 0 0,.slice none 0 0] (0,0) _ (.bool (er==0)) rfl (pt6_row HBA.out.v _ _ _ _ _ _) rfl Tryz.underlying26 rfl infoJSON) rfl (val_num_end HR4.out HRA.out HP.out HRV.out (pt6_below (Below.refl _ _) (by omega) _ _ _ _ _ _))
theorem value_text {G R:Nat}{s:ByteArray}{d deep:Nat}(hGR:G≤R) (hs:s.size≤1000000000000) (p:Nat) (w:World) (hR:Rdr w R s p 0 0 w) (hp:p≤s.size) (hG:Ground G w) (hB0:J.nextB s p=34):
  Calls Tryz.prog 57 #[.pointer (some ⟨R,0,none⟩),.int .i64 deep] w (ValOf w R s (J.val d (s.data.toList.drop p))):=by
 have hlt:=hR.lt;obtain ⟨RES,hRES⟩:∃x,J.val d (s.data.toList.drop p)=x:=⟨_,rfl⟩;rw [hRES];obtain ⟨q,hq⟩:∃q,J.nextP s p=q:=⟨_,rfl⟩;have hqs:q≤s.size:=by rw [←hq];exact J.nextP_le s p
 have hsk:=J.nextP_drop s p;have hN:=next_cases s p;obtain ⟨B,hB⟩:∃B,J.nextB s p=B:=⟨_,rfl⟩;rw [hq] at hN hsk;rw [hB] at hN;have hBv:B=34:=by rw [←hB];exact hB0
 clear hB0;obtain ⟨c,hqlt,hqc,hcs,hcb⟩:∃c,∃h:q<s.size,s[q]'h=c∧J.skip (s.data.toList.drop p)=c::s.data.toList.drop (q+1)∧B=c.toNat:=by
  rcases hN with ⟨_,_,h0⟩|h
  · omega
  · exact h
 have hcr:s.data.toList.drop q=c::s.data.toList.drop (q+1):=by rw [hsk,hcs]
 clear hN;have hc:c=34:=UInt8.toNat_inj.1 (show c.toNat=34 by omega);subst hc;have HRV:Hid (RES=J.on (fun t=>⟨4,false,0,⟨t.toArray⟩,.nil,[]⟩) (J.text (J.skip (s.data.toList.drop q)))):=by
  show _=_;have h2:J.skip (s.data.toList.drop q)=34::s.data.toList.drop (q+1):=by rw [hsk,J.skip_skip,hcs]
  rw [←hRES,J.val_text d hcs,h2]
 clear hcs hcr hsk hqc;have t_n:((B:Int)==110)=false:=beq_eq_false_iff_ne.2 (by omega);have t_t:((B:Int)==116)=false:=beq_eq_false_iff_ne.2 (by omega);have t_f:((B:Int)==102)=false:=beq_eq_false_iff_ne.2 (by omega);have t_m:((B:Int)==45)=false:=beq_eq_false_iff_ne.2 (by omega);have t_ge:decide ((48:Int)≤(B:Int))=false:=decide_eq_false (by omega);have t_q:((B:Int)==34)=true:=by rw [beq_iff_eq];omega
 clear hBv hcb;have HRS:=hid hRES;go_enter Tryz.func57,Tryz.ntmps57;go_upto_region 1 with fail;obtain ⟨w3,hw3⟩:∃w3,((w.alloc (.cells #[.pointer (some ⟨R,0,none⟩)] 145)).alloc (.cells #[.int .i64 deep] 3)).alloc (.cells #[.int .u8 0,.bool false,.int .i64 0,.string ⟨#[]⟩,.slice none 0 0,.slice none 0 0] 26)=w3:=⟨_,rfl⟩;have HB3:Hid (Bx w.heap.size R deep 0 (.slice none 0 0) (.slice none 0 0) w3):=by
  show Bx _ _ _ _ _ _ _;rw [←hw3];refine ⟨?_,?_,?_⟩
  · rw [Lib.alloc_old _ _ _ (by simp;omega),Lib.alloc_old _ _ _ (by simp)];exact heap_alloc_new w _
  · rw [Lib.alloc_old _ _ _ (by simp)];have:=heap_alloc_new (w.alloc (.cells #[.pointer (some ⟨R,0,none⟩)] 145)) (.cells #[.int .i64 deep] 3);simpa using this
  · have:=heap_alloc_new ((w.alloc (.cells #[.pointer (some ⟨R,0,none⟩)] 145)).alloc (.cells #[.int .i64 deep] 3)) (.cells #[.int .u8 0,.bool false,.int .i64 0,.string ⟨#[]⟩,.slice none 0 0,.slice none 0 0] 26);rw [show ((w.alloc (.cells #[.pointer (some ⟨R,0,none⟩)] 145)).alloc (.cells #[.int .i64 deep] 3)).heap.size=w.heap.size+2 by simp] at this;exact this
 have HR3:Hid (Rdr w R s p 0 0 w3):=by
  show Rdr _ _ _ _ _ _ _;rw [←hw3];exact ((hR.alloc _).alloc _).alloc _
 rw [hw3];have H33:Hid (w3.heap.size=w.heap.size+3):=by show _=_;rw [←hw3];simp
 clear hw3 hR hRES;have b0:=cell_of_one HB3.out.r;have cN:=next_own HR3.out hp (by omega);rw [hq,hB] at cN;clear hq;go_wp2_with fail;refine cN.mono ?_;rintro e w4 ⟨rfl,hr,hg⟩;have HR4:=hid hr;have HB4:=hid (HB3.out.kept hg hlt);have H43:Hid (w.heap.size+3≤w4.heap.size):=by show _≤_;have:=H33.out;have:=hg.size;omega
 clear hr hg cN HB3 HR3 b0 H33;have b0:=cell_of_one HB4.out.r;have b1:=cell_of_one HB4.out.d;have cM:=text_any HR4.out.own hqs (by omega) (hG.keep (HR4.out.base hGR)) hGR;go_wp2_with fail;refine cM.mono ?_;intro e w5 hen;obtain ⟨tt,bo,rfl,hg5,hpar⟩:=took_text hen;have HP:=hid hpar;have HB5:=hid (HB4.out.kept hg5 hlt);have HR5:=hid hg5;clear hen hg5 hpar cM b0 b1;go_upto_region 11 with fail;go_wp2_with fail;refine (str_any _ _).mono ?_;rintro e wA ⟨rfl,hbA⟩;have HBA:=hid (Bx.after HB5.out hbA);have HbA:=hid hbA;clear hbA;obtain ⟨v0,v1,v2,v3,v4,v5⟩:=vcells HBA.out.v;obtain ⟨f0,f1,f2,f3,f4,f5⟩:=vfree HBA.out.v;go_wp2_with fail;have hsz:w.heap.size+2<w5.heap.size:=Go.lt_of_block HB5.out.v;exact bodyPost_ret (v:= .tuple #[.agg #[.int .u8 4,.bool false,.int .i64 0,.string tt,.slice none 0 0,.slice none 0 0],.bool bo]) (results_pair rfl _ _ (w.heap.size+2) 26 #[.int .u8 4,.bool false,.int .i64 0,.string tt,.slice none 0 0,.slice none 0 0] (0,0) _ (.bool bo) rfl (pt6_row HBA.out.v _ _ _ _ _ _) rfl Tryz.underlying26 rfl infoJSON) rfl (val_text_end HR4.out HP.out HRV.out (pt6_below (Below.mono HbA.out (by omega)) (by omega) _ _ _ _ _ _))
theorem value_bad_lo {G R:Nat}{s:ByteArray}{d deep:Nat}(_hGR:G≤R) (hs:s.size≤1000000000000) (p:Nat) (w:World) (hR:Rdr w R s p 0 0 w) (hp:p≤s.size) (_hG:Ground G w) (hB0:J.nextB s p≠110∧J.nextB s p≠116∧J.nextB s p≠102∧J.nextB s p≠45∧¬ (48≤J.nextB s p∧J.nextB s p≤57)∧J.nextB s p≠34∧J.nextB s p≠91∧J.nextB s p≠123) (hge:decide ((48:Int)≤(J.nextB s p:Int))=false):
  Calls Tryz.prog 57 #[.pointer (some ⟨R,0,none⟩),.int .i64 deep] w (ValOf w R s (J.val d (s.data.toList.drop p))):=by
 have hlt:=hR.lt;obtain ⟨RES,hRES⟩:∃x,J.val d (s.data.toList.drop p)=x:=⟨_,rfl⟩;rw [hRES];obtain ⟨q,hq⟩:∃q,J.nextP s p=q:=⟨_,rfl⟩;have hqs:q≤s.size:=by rw [←hq];exact J.nextP_le s p
 have hsk:=J.nextP_drop s p;have hN:=next_cases s p;obtain ⟨B,hB⟩:∃B,J.nextB s p=B:=⟨_,rfl⟩;rw [hq] at hN hsk;rw [hB] at hN;rw [hB] at hB0 hge;have HRV:Hid (RES= .error (s.size-q,4)):=by
  show _=_;rw [←hRES];rcases hN with ⟨h1,h2,_⟩|⟨c,hlt,hqc,hcs,hcb⟩
  · rw [J.val_nil d h1,h2,Nat.sub_self]
  · have hne:∀k:UInt8,B≠k.toNat→c≠k:=fun k hk e=>hk (by rw [hcb,e])
    rw [J.val_bad d hcs (hne 110 hB0.1) (hne 116 hB0.2.1) (hne 102 hB0.2.2.1) (hne 45 hB0.2.2.2.1) (by rw [Bool.eq_false_iff];simp only [J.dig,ne_eq,decide_eq_true_eq];omega) (hne 34 hB0.2.2.2.2.2.1) (hne 91 hB0.2.2.2.2.2.2.1) (hne 123 hB0.2.2.2.2.2.2.2),drop_len,show s.size-(q+1)+1=s.size-q by omega]
 clear hN hsk;have t_n:((B:Int)==110)=false:=beq_eq_false_iff_ne.2 (by omega);have t_t:((B:Int)==116)=false:=beq_eq_false_iff_ne.2 (by omega);have t_f:((B:Int)==102)=false:=beq_eq_false_iff_ne.2 (by omega);have t_m:((B:Int)==45)=false:=beq_eq_false_iff_ne.2 (by omega);have t_q:((B:Int)==34)=false:=beq_eq_false_iff_ne.2 (by omega);have t_l:((B:Int)==91)=false:=beq_eq_false_iff_ne.2 (by omega);have t_o:((B:Int)==123)=false:=beq_eq_false_iff_ne.2 (by omega);clear hB0;have HRS:=hid hRES;go_enter Tryz.func57,Tryz.ntmps57;go_upto_region 1 with fail;obtain ⟨w3,hw3⟩:∃w3,((w.alloc (.cells #[.pointer (some ⟨R,0,none⟩)] 145)).alloc (.cells #[.int .i64 deep] 3)).alloc (.cells #[.int .u8 0,.bool false,.int .i64 0,.string ⟨#[]⟩,.slice none 0 0,.slice none 0 0] 26)=w3:=⟨_,rfl⟩;have HB3:Hid (Bx w.heap.size R deep 0 (.slice none 0 0) (.slice none 0 0) w3):=by
  show Bx _ _ _ _ _ _ _;rw [←hw3];refine ⟨?_,?_,?_⟩
  · rw [Lib.alloc_old _ _ _ (by simp;omega),Lib.alloc_old _ _ _ (by simp)];exact heap_alloc_new w _
  · rw [Lib.alloc_old _ _ _ (by simp)];have:=heap_alloc_new (w.alloc (.cells #[.pointer (some ⟨R,0,none⟩)] 145)) (.cells #[.int .i64 deep] 3);simpa using this
  · have:=heap_alloc_new ((w.alloc (.cells #[.pointer (some ⟨R,0,none⟩)] 145)).alloc (.cells #[.int .i64 deep] 3)) (.cells #[.int .u8 0,.bool false,.int .i64 0,.string ⟨#[]⟩,.slice none 0 0,.slice none 0 0] 26);rw [show ((w.alloc (.cells #[.pointer (some ⟨R,0,none⟩)] 145)).alloc (.cells #[.int .i64 deep] 3)).heap.size=w.heap.size+2 by simp] at this;exact this
 have HR3:Hid (Rdr w R s p 0 0 w3):=by
  show Rdr _ _ _ _ _ _ _;rw [←hw3];exact ((hR.alloc _).alloc _).alloc _
 rw [hw3];have H33:Hid (w3.heap.size=w.heap.size+3):=by show _=_;rw [←hw3];simp
 clear hw3 hR hRES;have b0:=cell_of_one HB3.out.r;have cN:=next_own HR3.out hp (by omega);rw [hq,hB] at cN;clear hq;go_wp2_with fail;refine cN.mono ?_;rintro e w4 ⟨rfl,hr,hg⟩;have HR4:=hid hr;have HB4:=hid (HB3.out.kept hg hlt);have H43:Hid (w.heap.size+3≤w4.heap.size):=by show _≤_;have:=H33.out;have:=hg.size;omega
 clear hr hg cN HB3 HR3 b0 H33;have b0:=cell_of_one HB4.out.r;have b1:=cell_of_one HB4.out.d;go_upto_region 19 with fail;refine wp_region_till (S:=(fun w':World=>Bx w.heap.size R deep 0 (.slice none 0 0) (.slice none 0 0) w')) 3 (by kernel_rfl) ?_;have HS:=hid (show ((fun w':World=>Bx w.heap.size R deep 0 (.slice none 0 0) (.slice none 0 0) w')) _ from HB4.out.drew);refine tillL 0 [0,3] (v:= ?v44) HS.out ?hy44 ?_
 case hy44=>
  intro w hSw;obtain ⟨v0,v1,v2,v3,v4,v5⟩:=vcells hSw.v;clear hSw;go_simp;try with_reducible rfl
 refine tillL 1 [1,2,3] (v:= ?v45) HS.out ?hy45 ?_
 case hy45=>
  intro w hSw;have b0:=cell_of_one hSw.r;clear hSw;go_simp;try with_reducible rfl
 refine tillD1 2 (fun K hK=> ?step46)
 case step46=>
  go_simp;refine (bad_own HR4.out.drew).mono ?_;rintro e w5 ⟨rfl,hr,hg⟩;have HR5:=hid hr;have HB5:=hid (HB4.out.drew.kept hg hlt);clear hr hg;obtain ⟨v0,v1,v2,v3,v4,v5⟩:=vcells HB5.out.v;obtain ⟨f0,f1,f2,f3,f4,f5⟩:=vfree HB5.out.v;try dsimp only
  refine hK.out _ _ (fun _=>HB5.out) (fun hHeld=> ?_);have HS46:=hid (hHeld (by kernel_rfl));clear hHeld hK K;refine tillD1 3 (fun K hK=> ?step47)
  case step47=>
    go_simp;refine hK.out _ _ (fun hk=>by cases (show true=false from hk)) (fun _=> ?_);clear hK K;refine tillA 4 (fun hk=>by cases (show true=false from hk)) ?_;refine wpTill_done (by kernel_rfl) ?_ _;go_wp2_with fail;exact bodyPost_ret (v:= .tuple #[.agg #[.int .u8 0,.bool false,.int .i64 0,.string ⟨#[]⟩,.slice none 0 0,.slice none 0 0],.bool false]) (results_pair rfl _ _ (w.heap.size+2) 26 #[.int .u8 0,.bool false,.int .i64 0,.string ⟨#[]⟩,.slice none 0 0,.slice none 0 0] (0,0) _ (.bool false) rfl (pt6_row HB5.out.v _ _ _ _ _ _) rfl Tryz.underlying26 rfl infoJSON) rfl (val_err (cs:= [.int .u8 0,.bool false,.int .i64 0,.string ⟨#[]⟩,.slice none 0 0,.slice none 0 0]) Shape.zero HRV.out hqs (by rw [show s.size-(s.size-q)=q by omega];exact HR5.out) (pt6_below (Below.refl _ _) (by omega) _ _ _ _ _ _))
theorem value_bad_hi {G R:Nat}{s:ByteArray}{d deep:Nat}(_hGR:G≤R) (hs:s.size≤1000000000000) (p:Nat) (w:World) (hR:Rdr w R s p 0 0 w) (hp:p≤s.size) (_hG:Ground G w) (hB0:J.nextB s p≠110∧J.nextB s p≠116∧J.nextB s p≠102∧J.nextB s p≠45∧¬ (48≤J.nextB s p∧J.nextB s p≤57)∧J.nextB s p≠34∧J.nextB s p≠91∧J.nextB s p≠123) (hge:decide ((48:Int)≤(J.nextB s p:Int))=true):
  Calls Tryz.prog 57 #[.pointer (some ⟨R,0,none⟩),.int .i64 deep] w (ValOf w R s (J.val d (s.data.toList.drop p))):=by
 have hlt:=hR.lt;obtain ⟨RES,hRES⟩:∃x,J.val d (s.data.toList.drop p)=x:=⟨_,rfl⟩;rw [hRES];obtain ⟨q,hq⟩:∃q,J.nextP s p=q:=⟨_,rfl⟩;have hqs:q≤s.size:=by rw [←hq];exact J.nextP_le s p
 have hsk:=J.nextP_drop s p;have hN:=next_cases s p;obtain ⟨B,hB⟩:∃B,J.nextB s p=B:=⟨_,rfl⟩;rw [hq] at hN hsk;rw [hB] at hN;rw [hB] at hB0 hge;have HRV:Hid (RES= .error (s.size-q,4)):=by
  show _=_;rw [←hRES];rcases hN with ⟨h1,h2,_⟩|⟨c,hlt,hqc,hcs,hcb⟩
  · rw [J.val_nil d h1,h2,Nat.sub_self]
  · have hne:∀k:UInt8,B≠k.toNat→c≠k:=fun k hk e=>hk (by rw [hcb,e])
    rw [J.val_bad d hcs (hne 110 hB0.1) (hne 116 hB0.2.1) (hne 102 hB0.2.2.1) (hne 45 hB0.2.2.2.1) (by rw [Bool.eq_false_iff];simp only [J.dig,ne_eq,decide_eq_true_eq];omega) (hne 34 hB0.2.2.2.2.2.1) (hne 91 hB0.2.2.2.2.2.2.1) (hne 123 hB0.2.2.2.2.2.2.2),drop_len,show s.size-(q+1)+1=s.size-q by omega]
 clear hN hsk;have h48:48≤B:=by have:=of_decide_eq_true hge;omega
 have t_n:((B:Int)==110)=false:=beq_eq_false_iff_ne.2 (by omega);have t_t:((B:Int)==116)=false:=beq_eq_false_iff_ne.2 (by omega);have t_f:((B:Int)==102)=false:=beq_eq_false_iff_ne.2 (by omega);have t_m:((B:Int)==45)=false:=beq_eq_false_iff_ne.2 (by omega);have t_le:decide ((B:Int)≤57)=false:=decide_eq_false (by omega);have t_q:((B:Int)==34)=false:=beq_eq_false_iff_ne.2 (by omega);have t_l:((B:Int)==91)=false:=beq_eq_false_iff_ne.2 (by omega);have t_o:((B:Int)==123)=false:=beq_eq_false_iff_ne.2 (by omega);clear hB0;have HRS:=hid hRES;go_enter Tryz.func57,Tryz.ntmps57;go_upto_region 1 with fail;obtain ⟨w3,hw3⟩:∃w3,((w.alloc (.cells #[.pointer (some ⟨R,0,none⟩)] 145)).alloc (.cells #[.int .i64 deep] 3)).alloc (.cells #[.int .u8 0,.bool false,.int .i64 0,.string ⟨#[]⟩,.slice none 0 0,.slice none 0 0] 26)=w3:=⟨_,rfl⟩;have HB3:Hid (Bx w.heap.size R deep 0 (.slice none 0 0) (.slice none 0 0) w3):=by
  show Bx _ _ _ _ _ _ _;rw [←hw3];refine ⟨?_,?_,?_⟩
  · rw [Lib.alloc_old _ _ _ (by simp;omega),Lib.alloc_old _ _ _ (by simp)];exact heap_alloc_new w _
  · rw [Lib.alloc_old _ _ _ (by simp)];have:=heap_alloc_new (w.alloc (.cells #[.pointer (some ⟨R,0,none⟩)] 145)) (.cells #[.int .i64 deep] 3);simpa using this
  · have:=heap_alloc_new ((w.alloc (.cells #[.pointer (some ⟨R,0,none⟩)] 145)).alloc (.cells #[.int .i64 deep] 3)) (.cells #[.int .u8 0,.bool false,.int .i64 0,.string ⟨#[]⟩,.slice none 0 0,.slice none 0 0] 26);rw [show ((w.alloc (.cells #[.pointer (some ⟨R,0,none⟩)] 145)).alloc (.cells #[.int .i64 deep] 3)).heap.size=w.heap.size+2 by simp] at this;exact this
 have HR3:Hid (Rdr w R s p 0 0 w3):=by
  show Rdr _ _ _ _ _ _ _;rw [←hw3];exact ((hR.alloc _).alloc _).alloc _
 rw [hw3];have H33:Hid (w3.heap.size=w.heap.size+3):=by show _=_;rw [←hw3];simp
 clear hw3 hR hRES;have b0:=cell_of_one HB3.out.r;have cN:=next_own HR3.out hp (by omega);rw [hq,hB] at cN;clear hq;go_wp2_with fail;refine cN.mono ?_;rintro e w4 ⟨rfl,hr,hg⟩;have HR4:=hid hr;have HB4:=hid (HB3.out.kept hg hlt);have H43:Hid (w.heap.size+3≤w4.heap.size):=by show _≤_;have:=H33.out;have:=hg.size;omega
 clear hr hg cN HB3 HR3 b0 H33;have b0:=cell_of_one HB4.out.r;have b1:=cell_of_one HB4.out.d;go_upto_region 19 with fail;refine wp_region_till (S:=(fun w':World=>Bx w.heap.size R deep 0 (.slice none 0 0) (.slice none 0 0) w')) 3 (by kernel_rfl) ?_;have HS:=hid (show ((fun w':World=>Bx w.heap.size R deep 0 (.slice none 0 0) (.slice none 0 0) w')) _ from HB4.out.drew);refine tillL 0 [0,3] (v:= ?v49) HS.out ?hy49 ?_
 case hy49=>
  intro w hSw;obtain ⟨v0,v1,v2,v3,v4,v5⟩:=vcells hSw.v;clear hSw;go_simp;try with_reducible rfl
 refine tillL 1 [1,2,3] (v:= ?v50) HS.out ?hy50 ?_
 case hy50=>
  intro w hSw;have b0:=cell_of_one hSw.r;clear hSw;go_simp;try with_reducible rfl
 refine tillD1 2 (fun K hK=> ?step51)
 case step51=>
  go_simp;refine (bad_own HR4.out.drew).mono ?_;rintro e w5 ⟨rfl,hr,hg⟩;have HR5:=hid hr;have HB5:=hid (HB4.out.drew.kept hg hlt);clear hr hg;obtain ⟨v0,v1,v2,v3,v4,v5⟩:=vcells HB5.out.v;obtain ⟨f0,f1,f2,f3,f4,f5⟩:=vfree HB5.out.v;try dsimp only
  refine hK.out _ _ (fun _=>HB5.out) (fun hHeld=> ?_);have HS51:=hid (hHeld (by kernel_rfl));clear hHeld hK K;refine tillD1 3 (fun K hK=> ?step52)
  case step52=>
    go_simp;refine hK.out _ _ (fun hk=>by cases (show true=false from hk)) (fun _=> ?_);clear hK K;refine tillA 4 (fun hk=>by cases (show true=false from hk)) ?_;refine wpTill_done (by kernel_rfl) ?_ _;go_wp2_with fail;exact bodyPost_ret (v:= .tuple #[.agg #[.int .u8 0,.bool false,.int .i64 0,.string ⟨#[]⟩,.slice none 0 0,.slice none 0 0],.bool false]) (results_pair rfl _ _ (w.heap.size+2) 26 #[.int .u8 0,.bool false,.int .i64 0,.string ⟨#[]⟩,.slice none 0 0,.slice none 0 0] (0,0) _ (.bool false) rfl (pt6_row HB5.out.v _ _ _ _ _ _) rfl Tryz.underlying26 rfl infoJSON) rfl (val_err (cs:= [.int .u8 0,.bool false,.int .i64 0,.string ⟨#[]⟩,.slice none 0 0,.slice none 0 0]) Shape.zero HRV.out hqs (by rw [show s.size-(s.size-q)=q by omega];exact HR5.out) (pt6_below (Below.refl _ _) (by omega) _ _ _ _ _ _))
end Go.Proofs.YtohkomndapngjaaGreatDoor

