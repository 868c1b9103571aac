/- pair's walk. (UNFINISHED) -/
import Derived.Test.YtohkomndapngjaaGreatDoorRN7
import Derived.Test.YtohkomndapngjaaGreatDoorRN1
import Derived.Test.YtohkomndapngjaaGreatDoorRN2
namespace Go.Proofs.YtohkomndapngjaaGreatDoor
set_option maxRecDepth 100000
set_option maxHeartbeats 16000000
open Go.RowKit
open Go.Lib (hid)
def PS (w:World) (R deep:Nat) (t:J.T) (ns:List ByteArray) (lv nv:Value) (ts:List Value) (W:World):Prop:=
 VP (w.heap.size+3) (w.heap.size+2) 6 t ns W lv nv ts∧W.heap[w.heap.size]? =some (.cells #[.pointer (some ⟨R,0,none⟩)] 145 (0,0))∧W.heap[w.heap.size+1]? =some (.cells #[.int .i64 deep] 3 (0,0))
theorem PS.kept {w W W':World}{R deep:Nat}{t:J.T}{ns:List ByteArray}{lv nv:Value}{ts:List Value}(h:PS w R deep t ns lv nv ts W) (g:W.grownBy W' (some R)) (hR:R<w.heap.size):PS w R deep t ns lv nv ts W':=by
 obtain ⟨h1,h2,h3⟩:=h;refine ⟨h1.kept g (by omega) (by omega),?_,?_⟩
 · rw [g.block _ (Go.lt_of_block h2) (fun e=>by have:=Option.some.inj e;omega)];exact h2
 · rw [g.block _ (Go.lt_of_block h3) (fun e=>by have:=Option.some.inj e;omega)];exact h3
theorem PS.bad {w W:World}{R deep:Nat}{t:J.T}{ns:List ByteArray}{lv nv:Value}{ts:List Value}(h:PS w R deep t ns lv nv ts W):VBad (w.heap.size+2) W:=VSt.bad ⟨lv,nv,ts,h.1⟩
theorem PS.cells {w W:World}{R deep:Nat}{t:J.T}{ns:List ByteArray}{lv nv:Value}{ts:List Value}(h:PS w R deep t ns lv nv ts W):W.cell? ⟨w.heap.size+2,4,none⟩=some lv∧W.cell? ⟨w.heap.size+2,5,none⟩=some nv:=by
 have h1:=h.1.v;exact ⟨by rw [Lib.cell_of_heap h1];rfl,by rw [Lib.cell_of_heap h1];rfl⟩
def X6 (X:Nat) (c0 c1 c2 c3 c4 c5:Value) (W:World):Prop:=W.cell? ⟨X,0,none⟩=some c0∧W.cell? ⟨X,1,none⟩=some c1∧W.cell? ⟨X,2,none⟩=some c2∧W.cell? ⟨X,3,none⟩=some c3∧W.cell? ⟨X,4,none⟩=some c4∧W.cell? ⟨X,5,none⟩=some c5
theorem x6_of {X:Nat}{c0 c1 c2 c3 c4 c5:Value}{W:World}{E:TypeId}(h:W.heap[X]? =some (.cells #[c0,c1,c2,c3,c4,c5] E (0,0))):X6 X c0 c1 c2 c3 c4 c5 W:=by
 refine ⟨?_,?_,?_,?_,?_,?_⟩<;>(rw [Lib.cell_of_heap h];rfl)
structure Al (w6:World) (X:Nat) (OX:Obj) (W:World):Prop where
 old:∀k,k<w6.heap.size→W.heap[k]? =w6.heap[k]?
 x:W.heap[X]? =some OX
 sz:w6.heap.size+1≤W.heap.size
 os:W.os=w6.os
 tape:W.tape=w6.tape
 output:W.output=w6.output
theorem Al.first (w6:World) (OX:Obj):Al w6 w6.heap.size OX (w6.alloc OX):=⟨fun k hk=>Lib.alloc_old w6 OX k hk,heap_alloc_new w6 OX,by simp,rfl,rfl,rfl⟩
theorem Al.alloc {w6 W:World}{X:Nat}{OX:Obj}(h:Al w6 X OX W) (O:Obj):Al w6 X OX (W.alloc O):=
 ⟨fun k hk=>by rw [Lib.alloc_old W O k (by have:=h.sz;omega)];exact h.old k hk,by rw [Lib.alloc_old W O X (Go.lt_of_block h.x)];exact h.x,by have:=h.sz;simp;omega,h.os,h.tape,h.output⟩
theorem Al.drew {w6 W:World}{X:Nat}{OX:Obj}(h:Al w6 X OX W):Al w6 X OX W.drew:=⟨h.old,h.x,h.sz,h.os,h.tape,h.output⟩
structure NB (B V X:Nat) (OX:Obj) (n m:Nat) (ns:List ByteArray) (nm:ByteArray) (lv nv:Value) (ts:List Value) (w6:World) (g1 cap1:Nat) (W:World):Prop where
 v:W.heap[V]? =some (vRow 6 lv nv)
 x:W.heap[X]? =some OX
 l:W.ownsRow B 26 6 lv n ts
 n:W.ownsRow B 9 1 (.slice (some ⟨g1,0,none⟩) (m+1) cap1) (m+1) (ns.map Value.string++ [.string nm])
 far:∀b,b<w6.heap.size→nv.ownBlock≠some b→W.heap[b]? =w6.heap[b]?
 sz:w6.heap.size+1≤W.heap.size
 g:nv.ownBlock=some g1∨w6.heap.size≤g1
 os:W.os=w6.os
 tape:W.tape=w6.tape
 output:W.output=w6.output
theorem NB.of {B V X n m g1 cap1:Nat}{OX:Obj}{ns:List ByteArray}{nm:ByteArray}{t:J.T}{lv nv:Value}{ts:List Value}{w6 Wi W:World}(hP:VP B V 6 t ns w6 lv nv ts) (hn:t.length=n) (hV:V<B) (hX:w6.heap.size≤X) (hA:Al w6 X OX Wi) (hg:Wi.grownBy W nv.ownBlock)
   (ho:W.ownsRow B 9 1 (.slice (some ⟨g1,0,none⟩) (m+1) cap1) (m+1) (ns.map Value.string++ [.string nm])) (hat:nv.ownBlock=some g1∨g1=Wi.heap.size):NB B V X OX n m ns nm lv nv ts w6 g1 cap1 W:=by
 have hs:=hg.size;have hsz:=hA.sz;have hnl:=World.ownsRow.lt hP.n;have hVl:=Go.lt_of_block hP.v;have hfar:∀b,b<w6.heap.size→nv.ownBlock≠some b→W.heap[b]? =w6.heap[b]? :=fun b h1 h2=>by rw [hg.block b (by omega) (fun e=>h2 e.symm)];exact hA.old b h1
 refine ⟨?_,?_,?_,ho,hfar,by omega,?_,hg.os.trans hA.os,hg.tape.trans hA.tape,hg.output.trans hA.output⟩
 · rw [hfar V hVl (fun e=>by have:=(hnl V e).1;omega)];exact hP.v
 · rw [hg.block X (Go.lt_of_block hA.x) (fun e=>by have:=(hnl X e.symm).2;omega)];exact hA.x
 · have h0:=hP.l;rcases h0.2 with ⟨rfl,h1⟩|⟨g2,cap2,cur2,h1,h2,h3,h4⟩
   · rw [←hn];exact ⟨h0.1,Or.inl ⟨rfl,h1⟩⟩
   · rw [←hn];refine ⟨h0.1,Or.inr ⟨g2,cap2,cur2,h1,h2,?_,h4⟩⟩;rw [hfar g2 (Go.lt_of_block h3) (hP.apart (by rw [h1];rfl))];exact h3
 · rcases hat with h|h
   · exact Or.inl h
   · exact Or.inr (by omega)
structure LB (B V X:Nat) (OX:Obj) (n m:Nat) (ns:List ByteArray) (nm:ByteArray) (lv nv:Value) (ts cs:List Value) (w6:World) (g1 cap1 g2 cap2:Nat) (W:World):Prop where
 v:W.heap[V]? =some (vRow 6 lv nv)
 x:W.heap[X]? =some OX
 l:W.ownsRow B 26 6 (.slice (some ⟨g2,0,none⟩) (n+1) cap2) (n+1) (ts++cs)
 n:W.ownsRow B 9 1 (.slice (some ⟨g1,0,none⟩) (m+1) cap1) (m+1) (ns.map Value.string++ [.string nm])
 far:∀b,b<w6.heap.size→nv.ownBlock≠some b→lv.ownBlock≠some b→W.heap[b]? =w6.heap[b]?
 sz:w6.heap.size+1≤W.heap.size
 g:nv.ownBlock=some g1∨w6.heap.size≤g1
 h:lv.ownBlock=some g2∨w6.heap.size≤g2
 os:W.os=w6.os
 tape:W.tape=w6.tape
 output:W.output=w6.output
theorem LB.of {B V X n m g1 cap1 g2 cap2:Nat}{OX:Obj}{ns:List ByteArray}{nm:ByteArray}{t:J.T}{lv nv:Value}{ts cs:List Value}{w6 w8 Wi W:World}(hP:VP B V 6 t ns w6 lv nv ts) (hV:V<B) (hX:w6.heap.size≤X) (hN:NB B V X OX n m ns nm lv nv ts w6 g1 cap1 w8) (hA:Wi=w8∨∃O,Wi=w8.alloc O) (hg:Wi.grownBy W lv.ownBlock)
   (ho:W.ownsRow B 26 6 (.slice (some ⟨g2,0,none⟩) (n+1) cap2) (n+1) (ts++cs)) (hat:lv.ownBlock=some g2∨g2=Wi.heap.size):LB B V X OX n m ns nm lv nv ts cs w6 g1 cap1 g2 cap2 W:=by
 have hs:=hg.size;have hll:=World.ownsRow.lt hP.l;have hVl:=Go.lt_of_block hN.v;have hXl:=Go.lt_of_block hN.x;have hW:(∀k,k<w8.heap.size→Wi.heap[k]? =w8.heap[k]?)∧w8.heap.size≤Wi.heap.size∧Wi.os=w8.os∧Wi.tape=w8.tape∧Wi.output=w8.output:=by
   rcases hA with rfl|⟨O,rfl⟩
   · exact ⟨fun _ _=>rfl,Nat.le_refl _,rfl,rfl,rfl⟩
   · exact ⟨fun k hk=>Lib.alloc_old _ _ _ hk,by simp,rfl,rfl,rfl⟩
 obtain ⟨hold,hws,ho1,ho2,ho3⟩:=hW;have hsz:=hN.sz;have hstep:∀b,b<w8.heap.size→lv.ownBlock≠some b→W.heap[b]? =w8.heap[b]? :=fun b h1 h2=>by rw [hg.block b (by omega) (fun e=>h2 e.symm)];exact hold b h1
 refine ⟨?_,?_,ho,?_,fun b h1 h2 h3=>by rw [hstep b (by omega) h3];exact hN.far b h1 h2,by omega,hN.g,?_,hg.os.trans (ho1.trans hN.os),hg.tape.trans (ho2.trans hN.tape),hg.output.trans (ho3.trans hN.output)⟩
 · rw [hstep V hVl (fun e=>by have:=(hll V e).1;omega)];exact hN.v
 · rw [hstep X hXl (fun e=>by have:=(hll X e).2;omega)];exact hN.x
 · have h0:=hN.n;rcases h0.2 with ⟨h1,_⟩|⟨g',cap',cur',h1,h2,h3,h4⟩
   · cases h1
   · refine ⟨h0.1,Or.inr ⟨g',cap',cur',h1,h2,?_,h4⟩⟩;rw [hstep g' (Go.lt_of_block h3) (fun e=>by
      rcases hN.l.2 with ⟨rfl,_⟩|⟨g3,cap3,cur3,h5,_,h6,_⟩
      · cases e
      · rw [h5] at e;simp only [Value.ownBlock,Option.some.injEq] at e;subst e;rw [h6] at h3;simp at h3)]
     exact h3
 · rcases hat with h|h
   · exact Or.inl h
   · exact Or.inr (by omega)
theorem pair_end {w w5 w6 w9 WF : World} {R d deep q4 n m g1 cap1 g2 cap2 X : Nat} {OX : Obj} {s : ByteArray} {st : J.T × List ByteArray} {nm : ByteArray} {t' : J.T} {lv nv : Value} {ts : List Value} {b : Bool} {cs : List Value} {RES : J.Res (J.T × List ByteArray)} (hR : Rdr w R s q4 0 0 w5) (hS5 : PS w R deep t' st.2 lv nv ts w5) (ht : t'.loose st.1) (hn : t'.length = n) (hm : st.2.length = m)
   (hV : Parts w5 R s (J.val d (s.data.toList.drop q4)) b cs w6) (hL : LB (w.heap.size + 3) (w.heap.size + 2) X OX n m st.2 nm lv nv ts cs w6 g1 cap1 g2 cap2 w9) (hRES : RES = J.valOn st nm (J.val d (s.data.toList.drop q4)))
   (hWF : WF = (w9.setCell ⟨w.heap.size + 2, 5, none⟩ (.slice (some ⟨g1, 0, none⟩) (m + 1) cap1)).setCell ⟨w.heap.size + 2, 4, none⟩ (.slice (some ⟨g2, 0, none⟩) (n + 1) cap2)) :
   OneOf w R s RES (ObjInv w R deep) (VBad (w.heap.size + 2)) (.returned (.bool b)) WF := by
 have hRlt := hR.lt
 have hg := hV.g
 have hP5 := hS5.1
 have hS6 := hS5.kept hg hRlt
 have hlt1 := World.ownsRow.lt hP5.l
 have hlt2 := World.ownsRow.lt hP5.n
 have hVW := Go.lt_of_block hP5.v
 have hs2 := hg.size
 have hsz9 := hL.sz
 have hgb1 := (World.ownsRow.lt hL.n g1 rfl).1
 have hgb2 := (World.ownsRow.lt hL.l g2 rfl).1
 have ga := (grownBy_set w9 (w.heap.size + 2) 5 (.slice (some ⟨g1, 0, none⟩) (m + 1) cap1)).trans (grownBy_set _ (w.heap.size + 2) 4 (.slice (some ⟨g2, 0, none⟩) (n + 1) cap2))
 have hszF : WF.heap.size = w9.heap.size := by rw [hWF]; simp [World.setCell]
 have hbF : ∀ k, k ≠ w.heap.size + 2 → WF.heap[k]? = w9.heap[k]? := fun k hk => by
   rw [hWF, heap_setCell_other _ ⟨w.heap.size + 2, 4, none⟩ k _ (fun e => hk (by simp [e])), heap_setCell_other _ ⟨w.heap.size + 2, 5, none⟩ k _ (fun e => hk (by simp [e]))]
 have hVF : WF.heap[w.heap.size + 2]? = some (vRow 6 (.slice (some ⟨g2, 0, none⟩) (n + 1) cap2) (.slice (some ⟨g1, 0, none⟩) (m + 1) cap1)) := by
   rw [hWF]; exact vRow_set (vRow_set5 hL.v _) _
 have hfar : ∀ k, k < w6.heap.size → lv.ownBlock ≠ some k → nv.ownBlock ≠ some k → k ≠ w.heap.size + 2 → WF.heap[k]? = w6.heap[k]? := fun k h1 h2 h3 h4 => by rw [hbF k h4]; exact hL.far k h1 h3 h2
 have hlow : ∀ k, k < w.heap.size + 3 → k ≠ w.heap.size + 2 → WF.heap[k]? = w6.heap[k]? := fun k h1 h2 => hfar k (by omega) (fun e => by have := (hlt1 k e).1; omega) (fun e => by have := (hlt2 k e).1; omega) h2
 have hbel : Below w.heap.size w6 WF := ⟨by rw [hWF]; exact ga.os.trans hL.os, by rw [hWF]; exact ga.tape.trans hL.tape, by rw [hWF]; exact ga.output.trans hL.output, by omega, fun k hk => hlow k (by omega) (by omega)⟩
 have hbox : WF.heap[w.heap.size]? = some (.cells #[.pointer (some ⟨R, 0, none⟩)] 145 (0, 0)) ∧ WF.heap[w.heap.size + 1]? = some (.cells #[.int .i64 deep] 3 (0, 0)) := by
   constructor
   · rw [hlow _ (by omega) (by omega)]; exact hS6.2.1
   · rw [hlow _ (by omega) (by omega)]; exact hS6.2.2
 have hgaF : w9.grownBy WF (some (w.heap.size + 2)) := by rw [hWF]; exact ga
 rcases hV with ⟨rfl, y, v, r, hx, hlo, hh, hr⟩ | ⟨rfl, m', er, q', hx, hq', hr⟩
 · left
   have hl : WF.ownsRow (w.heap.size + 3) 26 6 (.slice (some ⟨g2, 0, none⟩) (n + 1) cap2) (n + 1) (ts ++ cs) := World.ownsRow.kept hL.l hgaF (Or.inr fun e => by simp only [Value.ownBlock, Option.some.injEq] at e; omega)
   have hnr : WF.ownsRow (w.heap.size + 3) 9 1 (.slice (some ⟨g1, 0, none⟩) (m + 1) cap1) (m + 1) (st.2.map Value.string ++ [.string nm]) := World.ownsRow.kept hL.n hgaF (Or.inr fun e => by simp only [Value.ownBlock, Option.some.injEq] at e; omega)
   have := VP.push (H0 := w5.heap.size) (ns' := st.2 ++ [nm]) (nv' := .slice (some ⟨g1, 0, none⟩) (m + 1) cap1) hS6.1 hh (by omega) (fun k hk => (hlt1 k hk).2) (fun k hk => (hlt2 k hk).2) (by omega) hfar (by omega) (by rw [hn]; exact hl) hL.h (by rw [hn]; exact hVF)
     (by rw [List.length_append, List.map_append, hm]; exact hnr) (fun k hk => by
      simp only [Value.ownBlock, Option.some.injEq] at hk
      subst hk
      exact hL.g)
   exact ⟨_, _, by rw [hRES, hx, J.valOn_ok], rfl, (hR.trans hr).under hbel (Nat.le_refl _), hbox.1, hbox.2, t'.snoc v, J.T.loose_snoc ht hlo, _, _, _, this⟩
 · right
   exact ⟨_, _, _, by rw [hRES, hx, J.valOn_err], hq', rfl, (hR.trans hr).under hbel (Nat.le_refl _), ⟨_, _, _, _, _, _, _, hVF⟩⟩
theorem infoStr2:(Tryz.prog.info? 9).map (fun i=>(i.zero,i.size,i.bytes))=some (some (.string ⟨#[]⟩),1,16):=by kernel_rfl
theorem Al.s {w6 W:World}{X V:Nat}{OX O:Obj}(h:Al w6 X OX W) (hv:w6.heap[V]? =some O):W.heap[V]? =some O∧W.heap[X]? =some OX:=⟨(h.old V (Go.lt_of_block hv)).trans hv,h.x⟩
theorem pair_one {w:World}{G R:Nat}{s:ByteArray}{d deep:Nat}(hV:ValC G R s d (deep+1)) (hG:Ground G w) (hGR:G≤R) (hd:deep<16) (hs:s.size≤1000000000000) (st:J.T×List ByteArray) (q:Nat) (W:World)
   (hq:q≤s.size) (hl1:st.1.length≤q) (hl2:st.2.length≤q) (hR:Rdr w R s q 0 0 W) (hI:ObjInv w R deep st W):
   Calls Tryz.prog 111 #[.pointer (some ⟨R,0,none⟩),.pointer (some ⟨w.heap.size+2,0,none⟩),.int .i64 deep] W (OneOf w R s (J.stepO (J.val d) st (s.data.toList.drop q)) (ObjInv w R deep) (VBad (w.heap.size+2))):=by
 obtain ⟨RES,hRES⟩:∃x,J.stepO (J.val d) st (s.data.toList.drop q)=x:=⟨_,rfl⟩;rw [hRES];have HRS:=hid (hRES.symm.trans (J.stepO_eq (J.val d) st (s.data.toList.drop q)));obtain ⟨hb1,hb2,t',ht',lv,nv,ts,hP⟩:=hI;have HR:=hid hR;have HS0:Hid (PS w R deep t' st.2 lv nv ts W):=⟨hP,hb1,hb2⟩;have HT:=hid ht';have hRlt:=hR.lt;obtain ⟨na,nc,hnv⟩:=own_shape hP.n;obtain ⟨la,lc,hlv⟩:=own_shape hP.l;obtain ⟨m,hm⟩:∃m,st.2.length=m:=⟨_,rfl⟩;obtain ⟨n,hn⟩:∃n,t'.length=n:=⟨_,rfl⟩;rw [hm] at hnv;rw [hn] at hlv;subst hnv hlv;have HM:=hid hm;have HN:=hid hn;have HL:=hid (show st.1.length≤q∧st.2.length≤q from ⟨hl1,hl2⟩);have HV:=hid hV;have cN:=next_own hR hq (by omega);obtain ⟨q1,hq1⟩:∃q1,J.nextP s q=q1:=⟨_,rfl⟩;have hq1s:q1≤s.size:=by rw [←hq1];exact J.nextP_le s q
 have HD1:Hid (J.skip (s.data.toList.drop q)=s.data.toList.drop q1):=by show _=_;rw [←hq1,J.nextP_drop]
 rw [hq1] at cN;clear hRES hb1 hb2 ht' hP hm hn hl1 hl2 hV hR hq1;go_enter Tryz.func111,Tryz.ntmps111;go_wp2_with fail;refine cN.mono ?_;rintro e w1 ⟨rfl,hr,hg⟩;have HR1:=hid hr;have HS1:=hid (HS0.out.kept hg hRlt);clear hr hg cN HR HS0;obtain ⟨c0,c1, -, -⟩:=HR1.out.cells;have cT:=text_any HR1.out.own hq1s (by omega) (hG.keep (HR1.out.base hGR)) hGR;have hsk:J.skip (s.data.toList.drop q1)=s.data.toList.drop q1:=by rw [←HD1.out,J.skip_skip]
 rw [hsk] at cT;have HSK:=hid hsk;clear hsk;go_wp2_with fail;refine cT.mono ?_;intro e w2 hen;clear cT;rcases hen with ⟨t,r,hx,rfl,hr⟩|⟨m',er,q2,hx,hq2,rfl,hr⟩
 · have HR2:=hid (HR1.out.trans hr);have HS2:=hid (HS1.out.kept hr.g hRlt);have HX:=hid hx;have hsuf:=(J.text_fair (s.data.toList.drop q1)).1 _ _ hx;obtain ⟨a,ha⟩:=hsuf;obtain ⟨q2,hq2⟩:∃q2,s.size-r.length=q2:=⟨_,rfl⟩;have hrl:r=s.data.toList.drop q2∧q1≤q2∧q2≤s.size:=by
     have hl:=congrArg List.length ha;rw [List.length_append,drop_len] at hl;refine ⟨?_,by omega,by omega⟩;rw [←hq2,show s.size-r.length=q1+a.length by omega,←List.drop_drop,←ha,List.drop_left'];rfl
   rw [hq2] at HR2;have HRL:=hid hrl;obtain ⟨-,hq12,hq2s⟩:=hrl;clear hr hx ha hq2 HR1 HS1 c0 c1;obtain ⟨nm,hnm⟩:∃nm:ByteArray,(⟨t.toArray⟩:ByteArray)=nm:=⟨_,rfl⟩;have hnt:nm.data.toList=t:=by rw [←hnm]
   rw [hnm];obtain ⟨v4,v5⟩:=HS2.out.cells;have cC:=contains_any HS2.out.1.n nm (by have:=HL.out.2;omega) w2 (fun _ _=>rfl);rw [hnt] at cC;have HNM:=hid (show (⟨t.toArray⟩:ByteArray)=nm from hnm);clear hnm hnt;go_wp2_with fail;refine cC.mono ?_;rintro e w3 ⟨rfl,hw⟩;rw [hw];clear hw cC;by_cases hmem:t∈st.2.map (fun y=>y.data.toList)
   · rw [decide_eq_true hmem];have HE:Hid (RES= .error ((s.data.toList.drop q1).length,6)):=by
       show _=_;rw [HRS.out,HD1.out,J.name_twice HX.out hmem,J.objOn_err]
     have cF:=fail_own 6 (q1:Int) HR2.out;clear hmem;go_wp2_with fail;refine cF.mono ?_;rintro e w4 ⟨rfl,hr,hg⟩;have HR4:=hid hr;have HS4:=hid (HS2.out.kept hg hRlt);clear hr hg cF;go_wp2_with fail;go_ret;exact Or.inr ⟨_,6,q2,HE.out,hq2s,rfl,by rw [drop_len,show s.size-(s.size-q1)=q1 by omega];exact HR4.out,HS4.out.bad⟩
   · rw [decide_eq_false hmem];have cN2:=next_own HR2.out hq2s (by omega);have hNC:=next_cases s q2;obtain ⟨q3,hq3⟩:∃q3,J.nextP s q2=q3:=⟨_,rfl⟩;obtain ⟨bt,hbt⟩:∃bt,J.nextB s q2=bt:=⟨_,rfl⟩;have hq3s:q3≤s.size:=by rw [←hq3];exact J.nextP_le s q2
     have hd3:J.skip r=s.data.toList.drop q3:=by rw [HRL.out.1,←hq3,J.nextP_drop]
     rw [←HRL.out.1] at hNC;rw [hq3,hbt] at cN2;rw [hbt] at hNC;have HMEM:=hid hmem;by_cases h58:bt=58
     · have t2:((bt:Int) !=58)=false:=by rw [h58];rfl
       have hc3:q3<s.size∧J.skip r=58::s.data.toList.drop (q3+1):=by
        rcases hNC with ⟨_,_,h0⟩|⟨c,hlt,_,hsk2,hcb⟩
        · omega
        · have hc:c=58:=UInt8.toNat_inj.1 (show c.toNat=58 by omega);exact ⟨hq3 ▸ hlt,by rw [hsk2,hc,hq3]⟩
       obtain ⟨q4,hq4⟩:∃q4,q3+1=q4:=⟨_,rfl⟩;rw [hq4] at hc3;have e1:(q3:Int)+1=(q4:Int):=by omega
       have e2:IntKind.i64.wrap (q4:Int)=(q4:Int):=by rw [IntKind.wrap_i64];omega
       have hq4s:q4≤s.size:=by omega
       have HE:Hid (RES=J.valOn st nm (J.val d (s.data.toList.drop q4))):=by
        show _=_;rw [HRS.out,HD1.out,J.name_colon HX.out HMEM.out hc3.2,HNM.out,J.objOn_ok]
       obtain ⟨dp,hdp⟩:∃dp,deep+1=dp:=⟨_,rfl⟩;have e3:(deep:Int)+1=(dp:Int):=by omega
       have e4:IntKind.i64.wrap (dp:Int)=(dp:Int):=by rw [IntKind.wrap_i64];omega
       rw [hdp] at HV;clear hNC hc3 hq3 hbt hd3 hmem HMEM HRS hq4 hdp h58 HRL hq12;go_wp2_with fail;refine cN2.mono ?_;rintro e w4 ⟨rfl,hr,hg⟩;have HR4:=hid hr;have HS4:=hid (HS2.out.kept hg hRlt);clear hr hg cN2 HR2 HS2 v4 v5;obtain ⟨c0,c1, -, -⟩:=HR4.out.cells;obtain ⟨-,g1, -, -⟩:=HR4.out.free;go_wp2_with fail;have HR5:=hid (HR4.out.set1 q4);have HS5:=hid (HS4.out.kept (grownBy_set _ R 1 (.int .i64 q4)) hRlt);clear HR4 HS4 c0 c1 g1;generalize World.setCell w4 _ _=w5 at*;have cV:=HV.out q4 w5 HR5.out.own hq4s (hG.keep (HR5.out.base hGR));refine cV.mono ?_;intro e w6 hval;obtain ⟨b,cs,rfl,⟨k',b',n',s',a1,l1,q1',a2,l2,q2',rfl⟩,hparts⟩:=hval.parts;have HV6:Hid (Parts w5 R s (J.val d (s.data.toList.drop q4)) b [.int .u8 k',.bool b',.int .i64 n',.string s',.slice a1 l1 q1',.slice a2 l2 q2'] w6):=hparts;have HS6:=hid (HS5.out.kept HV6.out.g hRlt);clear hval cV hparts;have HA7:=hid (Al.first w6 (.cells #[.int .u8 k',.bool b',.int .i64 n',.string s',.slice a1 l1 q1',.slice a2 l2 q2'] 26));go_upto_region 12 with fail;obtain ⟨w7,hw7⟩:∃w7,w6.alloc (.cells #[.int .u8 k',.bool b',.int .i64 n',.string s',.slice a1 l1 q1',.slice a2 l2 q2'] 26)=w7:=⟨_,rfl⟩;have h7l:=World.ownsRow.alloc HS6.out.1.l (.cells #[.int .u8 k',.bool b',.int .i64 n',.string s',.slice a1 l1 q1',.slice a2 l2 q2'] 26);have h7n:=World.ownsRow.alloc HS6.out.1.n (.cells #[.int .u8 k',.bool b',.int .i64 n',.string s',.slice a1 l1 q1',.slice a2 l2 q2'] 26);rw [hw7] at HA7 h7l h7n ⊢;obtain ⟨X,hX⟩:∃X,w6.heap.size=X:=⟨_,rfl⟩;have HFIN:=hid (fun g1 cap1 g2 cap2 w9 WF hL hWF=>pair_end (g1:=g1) (cap1:=cap1) (g2:=g2) (cap2:=cap2) (w9:=w9) (WF:=WF) (X:=X) (OX:=(.cells #[.int .u8 k',.bool b',.int .i64 n',.string s',.slice a1 l1 q1',.slice a2 l2 q2'] 26)) HR5.out HS5.out HT.out HN.out HM.out HV6.out hL HE.out hWF);have HP6:=hid HS6.out.1;obtain ⟨V,hVe⟩:∃V,w.heap.size+2=V:=⟨_,rfl⟩;obtain ⟨B,hB⟩:∃B,w.heap.size+3=B:=⟨_,rfl⟩;have hV6:=HS6.out.1.v;have hV6l:=Go.lt_of_block hV6;rw [hVe] at hV6 hV6l HP6 HFIN ⊢;rw [hB] at HP6 h7l h7n HFIN;rw [hX] at HA7 ⊢;have HVB:Hid (V<B):=by show _<_;omega
       have HX6:Hid (w6.heap.size≤X):=by show _≤_;omega
       have hB7:B≤w7.heap.size:=by have:=HA7.out.sz;omega
       have hB6:B≤w6.heap.size:=by omega
       have h67:w6.heap.size+1≤w7.heap.size:=HA7.out.sz;have hnl:n≤1000000000000:=by have:=HN.out;have:=J.T.loose_len HT.out;have:=HL.out.1;omega
       have hml:m≤1000000000000:=by have:=HM.out;have:=HL.out.2;omega
       have hmx1:n+1≤maxLen:=by unfold maxLen;omega
       have hbd1:(n+1)*80≤140737488355328:=by omega
       have hmx2:m+1≤maxLen:=by unfold maxLen;omega
       have hbd2:(m+1)*16≤140737488355328:=by omega
       rw [HN.out] at h7l;rw [HM.out] at h7n;obtain ⟨i0,hi,hz0,hz1,hz2⟩:=info_parts infoJSON2;obtain ⟨j0,hj,hy0,hy1,hy2⟩:=info_parts infoStr2;have hoc:Hid (∀u∈([.int .u8 k',.bool b',.int .i64 n',.string s',.slice a1 l1 q1',.slice a2 l2 q2']:List Value),u.oneCell'=true):=Shape.one ⟨_,_,_,_,_,_,_,_,_,_,rfl⟩;have hon:Hid (∀u∈([.string nm]:List Value),u.oneCell'=true):=by show ∀u∈([.string nm]:List Value),u.oneCell'=true;intro u hu;simp only [List.mem_cons,List.not_mem_nil,or_false] at hu;subst hu;rfl
       have HRV6:=hid hV6;have HAa1:=hid (HA7.out.alloc (.cells #[.string nm] 9));have HAa2:=hid (HA7.out.alloc (.cells #[.int .u8 k',.bool b',.int .i64 n',.string s',.slice a1 l1 q1',.slice a2 l2 q2'] 26));have HAa12:=hid ((HA7.out.alloc (.cells #[.string nm] 9)).alloc (.cells #[.int .u8 k',.bool b',.int .i64 n',.string s',.slice a1 l1 q1',.slice a2 l2 q2'] 26));have HAa21:=hid ((HA7.out.alloc (.cells #[.int .u8 k',.bool b',.int .i64 n',.string s',.slice a1 l1 q1',.slice a2 l2 q2'] 26)).alloc (.cells #[.string nm] 9));have hn1:=hid <| World.ownsRow.drew (World.ownsRow.alloc h7n (.cells #[.string nm] 9))
       have hn2:=hid <| World.ownsRow.drew (World.ownsRow.alloc (World.ownsRow.alloc h7n (.cells #[.string nm] 9)) (.cells #[.int .u8 k',.bool b',.int .i64 n',.string s',.slice a1 l1 q1',.slice a2 l2 q2'] 26))
       have hn3:=hid <| World.ownsRow.drew (World.ownsRow.alloc (World.ownsRow.alloc h7n (.cells #[.int .u8 k',.bool b',.int .i64 n',.string s',.slice a1 l1 q1',.slice a2 l2 q2'] 26)) (.cells #[.string nm] 9))
       have nw1:=hid <| World.news_of_block (w:=((w7.alloc (.cells #[.string nm] 9))).drew) (cs:=#[.string nm]) (heap_alloc_new w7 (.cells #[.string nm] 9))
       have nw2:=hid <| World.news_of_block (w:=(((w7.alloc (.cells #[.string nm] 9)).alloc (.cells #[.int .u8 k',.bool b',.int .i64 n',.string s',.slice a1 l1 q1',.slice a2 l2 q2'] 26))).drew) (cs:=#[.string nm]) (show ((w7.alloc (.cells #[.string nm] 9)).alloc (.cells #[.int .u8 k',.bool b',.int .i64 n',.string s',.slice a1 l1 q1',.slice a2 l2 q2'] 26)).heap[w7.heap.size]? =_ by rw [Lib.alloc_old _ _ _ (by simp)];exact heap_alloc_new w7 (.cells #[.string nm] 9))
       have nw3:=hid <| World.news_of_block (w:=(((w7.alloc (.cells #[.int .u8 k',.bool b',.int .i64 n',.string s',.slice a1 l1 q1',.slice a2 l2 q2'] 26)).alloc (.cells #[.string nm] 9))).drew) (cs:=#[.string nm]) (show ((w7.alloc (.cells #[.int .u8 k',.bool b',.int .i64 n',.string s',.slice a1 l1 q1',.slice a2 l2 q2'] 26)).alloc (.cells #[.string nm] 9)).heap[w7.heap.size+1]? =_ by have:=heap_alloc_new (w7.alloc (.cells #[.int .u8 k',.bool b',.int .i64 n',.string s',.slice a1 l1 q1',.slice a2 l2 q2'] 26)) (.cells #[.string nm] 9);simpa using this)
       have hb1:Hid (B≤((w7.alloc (.cells #[.string nm] 9)).drew).heap.size):=by show B≤(w7.alloc (.cells #[.string nm] 9)).heap.size;simp;omega
       have hb2:Hid (B≤(((w7.alloc (.cells #[.string nm] 9)).alloc (.cells #[.int .u8 k',.bool b',.int .i64 n',.string s',.slice a1 l1 q1',.slice a2 l2 q2'] 26)).drew).heap.size):=by show B≤((w7.alloc (.cells #[.string nm] 9)).alloc (.cells #[.int .u8 k',.bool b',.int .i64 n',.string s',.slice a1 l1 q1',.slice a2 l2 q2'] 26)).heap.size;simp;omega
       have hb3:Hid (B≤(((w7.alloc (.cells #[.int .u8 k',.bool b',.int .i64 n',.string s',.slice a1 l1 q1',.slice a2 l2 q2'] 26)).alloc (.cells #[.string nm] 9)).drew).heap.size):=by show B≤((w7.alloc (.cells #[.int .u8 k',.bool b',.int .i64 n',.string s',.slice a1 l1 q1',.slice a2 l2 q2'] 26)).alloc (.cells #[.string nm] 9)).heap.size;simp;omega
       have HVE:=hid hVe;have HMB:=hid (show _∧_∧_∧_ from ⟨hmx1,hbd1,hmx2,hbd2⟩);have HI0:=hid (show _∧_∧_∧_ from ⟨hi,hz0,hz1,hz2⟩);have HJ0:=hid (show _∧_∧_∧_ from ⟨hj,hy0,hy1,hy2⟩);have HB6:=hid hB6;have H67:=hid h67;clear hmx1 hbd1 hmx2 hbd2 hi hz0 hz1 hz2 hj hy0 hy1 hy2 hB6 h67 hB7 hnl hml hV6l hs hd hq hq1s hq2s hq3s hq4s hRlt t2 hG hGR;clear hw7 hX hVe hB HS5 HS6 h7l h7n e1 e2 e3 e4;have HRV7:=hid (Al.s HA7.out HRV6.out);clear hV6;refine wp_region_till (S:=(fun w':World=>w'.heap[V]? =some (vRow 6 (.slice la n lc) (.slice na m nc))∧w'.heap[X]? =some (.cells #[.int .u8 k',.bool b',.int .i64 n',.string s',.slice a1 l1 q1',.slice a2 l2 q2'] 26))) 18 (by kernel_rfl) ?_;have HS:=hid (show ((fun w':World=>w'.heap[V]? =some (vRow 6 (.slice la n lc) (.slice na m nc))∧w'.heap[X]? =some (.cells #[.int .u8 k',.bool b',.int .i64 n',.string s',.slice a1 l1 q1',.slice a2 l2 q2'] 26))) _ from HRV7.out);refine tillA 0 (fun _=>HS.out) ?_;refine tillA 1 (fun _=>HS.out) ?_;refine tillA 2 (fun _=>HS.out) ?_;refine tillA 3 (fun _=>HS.out) ?_;refine tillA 4 (fun _=>HS.out) ?_;refine tillL 5 [5,8,15,18] (v:= ?v6) HS.out ?hy6 ?_
       case hy6=>
        intro w hSw;have c5:w.cell? ⟨V,5,none⟩=some (.slice na m nc):=by rw [Lib.cell_of_heap hSw.1];rfl
        clear hSw;go_simp;try with_reducible rfl
       refine tillA 6 (fun _=>HS.out) ?_;refine tillA 9 (fun _=>HS.out) ?_;refine tillA 10 (fun _=>HS.out) ?_;refine tillA 11 (fun _=>HS.out) ?_;refine tillL 12 [12,15,18] (v:= ?v11) HS.out ?hy11 ?_
       case hy11=>
        intro w hSw;have c4:w.cell? ⟨V,4,none⟩=some (.slice la n lc):=by rw [Lib.cell_of_heap hSw.1];rfl
        clear hSw;go_simp;try with_reducible rfl
       refine tillL 13 [13,14,15,18] (v:= ?v12) HS.out ?hy12 ?_
       case hy12=>
        intro w hSw;obtain ⟨x0,x1,x2,x3,x4,x5⟩:=x6_of hSw.2;clear hSw;go_simp;try with_reducible rfl
       refine tillC 7 [14] (fun K hK=> ?step40) ?more40
       case step40=>
        go_simp;refine hK.out _ _ (fun _=>(Al.s (Al.drew HAa1.out) HRV6.out)) ?_;clear hK K;refine tillC 8 [14] (fun K hK=> ?step38) ?more38
        case step38=>
          refine step_append_lies _ (by rfl) (.tmp 60) (.tmp 62) 23 (by rfl) B 9 j0 _ 1 16 Tryz.underlying23 HJ0.out.1 HJ0.out.2.1 HJ0.out.2.2.1 HJ0.out.2.2.2 rfl (by decide) (.slice na m nc) m (st.2.map Value.string) (by rfl) hn1.out ⟨w7.heap.size,0,none⟩ 1 1 [.string nm] (by rfl) rfl nw1.out hon.out (by decide) HMB.out.2.2.1 HMB.out.2.2.2 hb1.out _ rfl ?_;intro g1 cap1 w8 hown hgrow hat hlt;have NBf:=NB.of HP6.out HN.out HVB.out HX6.out (Al.drew HAa1.out) hgrow hown hat;have H8:=hid NBf;have N8L:=hid NBf.l;have hB8:Hid (B≤w8.heap.size):=Nat.le_trans HB6.out (Nat.le_trans (Nat.le_succ _) NBf.sz);have L8a:=hid <| World.ownsRow.alloc NBf.l (.cells #[.int .u8 k',.bool b',.int .i64 n',.string s',.slice a1 l1 q1',.slice a2 l2 q2'] 26)
          have nw8:=hid <| World.news_of_block (heap_alloc_new w8 (.cells #[.int .u8 k',.bool b',.int .i64 n',.string s',.slice a1 l1 q1',.slice a2 l2 q2'] 26))
          clear NBf hown hgrow hat hlt;refine hK.out _ _ (fun _=>⟨H8.out.v,H8.out.x⟩) ?_;clear hK K;refine till1 14 (fun K hK=> ?step20)
          case step20=>
            go_simp;refine hK.out _ _ (fun _=>⟨(Lib.alloc_old _ _ _ (Go.lt_of_block H8.out.v)).trans H8.out.v,(Lib.alloc_old _ _ _ (Go.lt_of_block H8.out.x)).trans H8.out.x⟩) ?_;clear hK K;refine till1 15 (fun K hK=> ?step19)
            case step19=>
             refine step_append_lies _ (by rfl) (.tmp 67) (.tmp 69) 22 (by rfl) B 26 i0 _ 6 80 Tryz.underlying22 HI0.out.1 HI0.out.2.1 HI0.out.2.2.1 HI0.out.2.2.2 rfl (by decide) (.slice la n lc) n ts (by rfl) L8a.out ⟨w8.heap.size,0,none⟩ 1 1 [.int .u8 k',.bool b',.int .i64 n',.string s',.slice a1 l1 q1',.slice a2 l2 q2'] (by rfl) rfl nw8.out hoc.out (by decide) HMB.out.1 HMB.out.2.1 (Nat.le_trans hB8.out (by simp)) _ rfl ?_;intro g2 cap2 w9 hown2 hgrow2 hat2 hlt2;have LBf:=LB.of HP6.out HVB.out HX6.out H8.out (Or.inr ⟨_,rfl⟩) hgrow2 hown2 hat2;have v49:w9.cell? ⟨V,4,none⟩=some (.slice la n lc):=by rw [Lib.cell_of_heap LBf.v];rfl
             have v59:w9.cell? ⟨V,5,none⟩=some (.slice na m nc):=by rw [Lib.cell_of_heap LBf.v];rfl
             have f49:=Lib.frozen_of_heap LBf.v 4;have f59:=Lib.frozen_of_heap LBf.v 5;have H9:=hid LBf;clear LBf hown2 hgrow2 hat2 hlt2;refine hK.out _ _ (fun _=>⟨H9.out.v,H9.out.x⟩) ?_;clear hK K;refine tillA 16 (fun _=>⟨H9.out.v,H9.out.x⟩) ?_;refine tillA 17 (fun _=>⟨H9.out.v,H9.out.x⟩) ?_;refine till1 18 (fun K hK=> ?step18)
             case step18=>
              go_simp;refine hK.out _ _ (fun hk=>by cases (show true=false from hk)) ?_;clear hK K;refine tillA 19 (fun hk=>by cases (show true=false from hk)) ?_;refine tillA 20 (fun hk=>by cases (show true=false from hk)) ?_;refine till1 21 (fun K hK=> ?step17)
              case step17=>
               go_simp;refine hK.out _ _ (fun hk=>by cases (show true=false from hk)) ?_;clear hK K;refine wpTill_done (by kernel_rfl) ?_ _;have HFZ:Hid (∀(en:Ending) (WF:World),en= .returned (.bool b)→WF=(w9.setCell ⟨V,5,none⟩ (.slice (some ⟨g1,0,none⟩) (m+1) cap1)).setCell ⟨V,4,none⟩ (.slice (some ⟨g2,0,none⟩) (n+1) cap2)→OneOf w R s RES (ObjInv w R deep) (VBad (w.heap.size+2)) en WF):=fun en WF h1 h2=>by rw [h1,HVE.out];exact HFIN.out g1 cap1 g2 cap2 w9 WF H9.out h2
               clear v49 v59 f49 f59;go_wp2_with fail;go_ret;refine HFZ.out _ _ ?_ ?_
               · rfl
               · with_reducible rfl
        case more38=>
          refine AllTill.cons (o:= ?oi39) ?ho39 (fun K hK=> ?step39) ?more39
          case ho39=>rfl
          case more39=>exact AllTill.nil
          case step39=>
            go_simp;refine hK.out _ _ (fun _=>(Al.s (Al.drew HAa12.out) HRV6.out)) ?_;clear hK K;refine till1 8 (fun K hK=> ?step28)
            case step28=>
             refine step_append_lies _ (by rfl) (.tmp 60) (.tmp 62) 23 (by rfl) B 9 j0 _ 1 16 Tryz.underlying23 HJ0.out.1 HJ0.out.2.1 HJ0.out.2.2.1 HJ0.out.2.2.2 rfl (by decide) (.slice na m nc) m (st.2.map Value.string) (by rfl) hn2.out ⟨w7.heap.size,0,none⟩ 1 1 [.string nm] (by rfl) rfl nw2.out hon.out (by decide) HMB.out.2.2.1 HMB.out.2.2.2 hb2.out _ rfl ?_;intro g1 cap1 w8 hown hgrow hat hlt;have NBf:=NB.of HP6.out HN.out HVB.out HX6.out (Al.drew HAa12.out) hgrow hown hat;have H8:=hid NBf;have N8L:=hid NBf.l;have hB8:Hid (B≤w8.heap.size):=Nat.le_trans HB6.out (Nat.le_trans (Nat.le_succ _) NBf.sz);have nw8:=hid <| World.news_of_block (w:=w8) (cs:=#[.int .u8 k',.bool b',.int .i64 n',.string s',.slice a1 l1 q1',.slice a2 l2 q2']) (show w8.heap[w7.heap.size+1]? =_ by rw [World.grownBy.block hgrow _ (by have:=H67.out;simp<;>omega) (fun e=>by have:=(World.ownsRow.lt HP6.out.n _ e.symm).2;have:=HX6.out;have:=H67.out;omega)];exact (by show ((w7.alloc (.cells #[.string nm] 9)).alloc (.cells #[.int .u8 k',.bool b',.int .i64 n',.string s',.slice a1 l1 q1',.slice a2 l2 q2'] 26)).heap[w7.heap.size+1]? =_;rw [show w7.heap.size+1=(w7.alloc (.cells #[.string nm] 9)).heap.size by simp];exact heap_alloc_new _ _))
             clear NBf hown hgrow hat hlt;refine hK.out _ _ (fun _=>⟨H8.out.v,H8.out.x⟩) ?_;clear hK K;refine till1 15 (fun K hK=> ?step27)
             case step27=>
              refine step_append_lies _ (by rfl) (.tmp 67) (.tmp 69) 22 (by rfl) B 26 i0 _ 6 80 Tryz.underlying22 HI0.out.1 HI0.out.2.1 HI0.out.2.2.1 HI0.out.2.2.2 rfl (by decide) (.slice la n lc) n ts (by rfl) N8L.out ⟨w7.heap.size+1,0,none⟩ 1 1 [.int .u8 k',.bool b',.int .i64 n',.string s',.slice a1 l1 q1',.slice a2 l2 q2'] (by rfl) rfl nw8.out hoc.out (by decide) HMB.out.1 HMB.out.2.1 hB8.out _ rfl ?_;intro g2 cap2 w9 hown2 hgrow2 hat2 hlt2;have LBf:=LB.of HP6.out HVB.out HX6.out H8.out (Or.inl rfl) hgrow2 hown2 hat2;have v49:w9.cell? ⟨V,4,none⟩=some (.slice la n lc):=by rw [Lib.cell_of_heap LBf.v];rfl
              have v59:w9.cell? ⟨V,5,none⟩=some (.slice na m nc):=by rw [Lib.cell_of_heap LBf.v];rfl
              have f49:=Lib.frozen_of_heap LBf.v 4;have f59:=Lib.frozen_of_heap LBf.v 5;have H9:=hid LBf;clear LBf hown2 hgrow2 hat2 hlt2;refine hK.out _ _ (fun _=>⟨H9.out.v,H9.out.x⟩) ?_;clear hK K;refine tillA 16 (fun _=>⟨H9.out.v,H9.out.x⟩) ?_;refine tillA 17 (fun _=>⟨H9.out.v,H9.out.x⟩) ?_;refine till1 18 (fun K hK=> ?step26)
              case step26=>
               go_simp;refine hK.out _ _ (fun hk=>by cases (show true=false from hk)) ?_;clear hK K;refine tillA 19 (fun hk=>by cases (show true=false from hk)) ?_;refine tillA 20 (fun hk=>by cases (show true=false from hk)) ?_;refine till1 21 (fun K hK=> ?step25)
               case step25=>
                 go_simp;refine hK.out _ _ (fun hk=>by cases (show true=false from hk)) ?_;clear hK K;refine wpTill_done (by kernel_rfl) ?_ _;have HFZ:Hid (∀(en:Ending) (WF:World),en= .returned (.bool b)→WF=(w9.setCell ⟨V,5,none⟩ (.slice (some ⟨g1,0,none⟩) (m+1) cap1)).setCell ⟨V,4,none⟩ (.slice (some ⟨g2,0,none⟩) (n+1) cap2)→OneOf w R s RES (ObjInv w R deep) (VBad (w.heap.size+2)) en WF):=fun en WF h1 h2=>by rw [h1,HVE.out];exact HFIN.out g1 cap1 g2 cap2 w9 WF H9.out h2
                 clear v49 v59 f49 f59;go_wp2_with fail;go_ret;refine HFZ.out _ _ ?_ ?_
                 · rfl
                 · with_reducible rfl
       case more40=>
        refine AllTill.cons (o:= ?oi41) ?ho41 (fun K hK=> ?step41) ?more41
        case ho41=>rfl
        case more41=>exact AllTill.nil
        case step41=>
          go_simp;refine hK.out _ _ (fun _=>(Al.s (Al.drew HAa2.out) HRV6.out)) ?_;clear hK K;refine till1 7 (fun K hK=> ?step37)
          case step37=>
            go_simp;refine hK.out _ _ (fun _=>(Al.s (Al.drew HAa21.out) HRV6.out)) ?_;clear hK K;refine till1 8 (fun K hK=> ?step36)
            case step36=>
             refine step_append_lies _ (by rfl) (.tmp 60) (.tmp 62) 23 (by rfl) B 9 j0 _ 1 16 Tryz.underlying23 HJ0.out.1 HJ0.out.2.1 HJ0.out.2.2.1 HJ0.out.2.2.2 rfl (by decide) (.slice na m nc) m (st.2.map Value.string) (by rfl) hn3.out ⟨w7.heap.size+1,0,none⟩ 1 1 [.string nm] (by rfl) rfl nw3.out hon.out (by decide) HMB.out.2.2.1 HMB.out.2.2.2 hb3.out _ rfl ?_;intro g1 cap1 w8 hown hgrow hat hlt;have NBf:=NB.of HP6.out HN.out HVB.out HX6.out (Al.drew HAa21.out) hgrow hown hat;have H8:=hid NBf;have N8L:=hid NBf.l;have hB8:Hid (B≤w8.heap.size):=Nat.le_trans HB6.out (Nat.le_trans (Nat.le_succ _) NBf.sz);have nw8:=hid <| World.news_of_block (w:=w8) (cs:=#[.int .u8 k',.bool b',.int .i64 n',.string s',.slice a1 l1 q1',.slice a2 l2 q2']) (show w8.heap[w7.heap.size]? =_ by rw [World.grownBy.block hgrow _ (by have:=H67.out;simp<;>omega) (fun e=>by have:=(World.ownsRow.lt HP6.out.n _ e.symm).2;have:=HX6.out;have:=H67.out;omega)];exact (by show ((w7.alloc (.cells #[.int .u8 k',.bool b',.int .i64 n',.string s',.slice a1 l1 q1',.slice a2 l2 q2'] 26)).alloc (.cells #[.string nm] 9)).heap[w7.heap.size]? =_;rw [Lib.alloc_old _ _ _ (by simp)];exact heap_alloc_new w7 (.cells #[.int .u8 k',.bool b',.int .i64 n',.string s',.slice a1 l1 q1',.slice a2 l2 q2'] 26)))
             clear NBf hown hgrow hat hlt;refine hK.out _ _ (fun _=>⟨H8.out.v,H8.out.x⟩) ?_;clear hK K;refine till1 15 (fun K hK=> ?step35)
             case step35=>
              refine step_append_lies _ (by rfl) (.tmp 67) (.tmp 69) 22 (by rfl) B 26 i0 _ 6 80 Tryz.underlying22 HI0.out.1 HI0.out.2.1 HI0.out.2.2.1 HI0.out.2.2.2 rfl (by decide) (.slice la n lc) n ts (by rfl) N8L.out ⟨w7.heap.size,0,none⟩ 1 1 [.int .u8 k',.bool b',.int .i64 n',.string s',.slice a1 l1 q1',.slice a2 l2 q2'] (by rfl) rfl nw8.out hoc.out (by decide) HMB.out.1 HMB.out.2.1 hB8.out _ rfl ?_;intro g2 cap2 w9 hown2 hgrow2 hat2 hlt2;have LBf:=LB.of HP6.out HVB.out HX6.out H8.out (Or.inl rfl) hgrow2 hown2 hat2;have v49:w9.cell? ⟨V,4,none⟩=some (.slice la n lc):=by rw [Lib.cell_of_heap LBf.v];rfl
              have v59:w9.cell? ⟨V,5,none⟩=some (.slice na m nc):=by rw [Lib.cell_of_heap LBf.v];rfl
              have f49:=Lib.frozen_of_heap LBf.v 4;have f59:=Lib.frozen_of_heap LBf.v 5;have H9:=hid LBf;clear LBf hown2 hgrow2 hat2 hlt2;refine hK.out _ _ (fun _=>⟨H9.out.v,H9.out.x⟩) ?_;clear hK K;refine tillA 16 (fun _=>⟨H9.out.v,H9.out.x⟩) ?_;refine tillA 17 (fun _=>⟨H9.out.v,H9.out.x⟩) ?_;refine till1 18 (fun K hK=> ?step34)
              case step34=>
               go_simp;refine hK.out _ _ (fun hk=>by cases (show true=false from hk)) ?_;clear hK K;refine tillA 19 (fun hk=>by cases (show true=false from hk)) ?_;refine tillA 20 (fun hk=>by cases (show true=false from hk)) ?_;refine till1 21 (fun K hK=> ?step33)
               case step33=>
                 go_simp;refine hK.out _ _ (fun hk=>by cases (show true=false from hk)) ?_;clear hK K;refine wpTill_done (by kernel_rfl) ?_ _;have HFZ:Hid (∀(en:Ending) (WF:World),en= .returned (.bool b)→WF=(w9.setCell ⟨V,5,none⟩ (.slice (some ⟨g1,0,none⟩) (m+1) cap1)).setCell ⟨V,4,none⟩ (.slice (some ⟨g2,0,none⟩) (n+1) cap2)→OneOf w R s RES (ObjInv w R deep) (VBad (w.heap.size+2)) en WF):=fun en WF h1 h2=>by rw [h1,HVE.out];exact HFIN.out g1 cap1 g2 cap2 w9 WF H9.out h2
                 clear v49 v59 f49 f59;go_wp2_with fail;go_ret;refine HFZ.out _ _ ?_ ?_
                 · rfl
                 · with_reducible rfl
     · have t2:((bt:Int) !=58)=true:=by rw [bne_iff_ne];omega
       have HE:Hid (RES= .error (s.size-q3,4)):=by
        show _=_;rw [HRS.out,HD1.out,J.name_none HX.out HMEM.out (fun l3 h3=>by
          rcases hNC with ⟨hsk2,_,_⟩|⟨c,hlt,_,hsk2,hcb⟩
          · rw [hsk2] at h3;cases h3
          · rw [hsk2] at h3;have hc:c=58:=(List.cons.inj h3).1;rw [hc] at hcb;exact h58 hcb),hd3,drop_len,J.objOn_err]
       clear hNC hq3 hbt hd3 hmem HMEM HRS h58;go_wp2_with fail;refine cN2.mono ?_;rintro e w4 ⟨rfl,hr,hg⟩;have HR4:=hid hr;have HS4:=hid (HS2.out.kept hg hRlt);clear hr hg cN2;go_wp2_with fail;refine (bad_own HR4.out).mono ?_;rintro e w5 ⟨rfl,hr,hg⟩;have HR5:=hid hr;have HS5:=hid (HS4.out.kept hg hRlt);clear hr hg;go_wp2_with fail;go_ret;exact Or.inr ⟨_,4,q3,HE.out,hq3s,rfl,by rw [show s.size-(s.size-q3)=q3 by omega];exact HR5.out,HS5.out.bad⟩
 · have HE:Hid (RES= .error (m',er)):=by
     show _=_;rw [HRS.out,HD1.out,J.name_err hx,J.objOn_err]
   have HR2:=hid (HR1.out.trans hr);have HS2:=hid (HS1.out.kept hr.g hRlt);clear hx hr HRS;go_wp2_with fail;go_ret;exact Or.inr ⟨m',er,q2,HE.out,hq2,rfl,HR2.out,HS2.out.bad⟩
theorem obj_one {w:World}{G R:Nat}{s:ByteArray}{d deep:Nat}(hV:ValC G R s d (deep+1)) (hG:Ground G w) (hGR:G≤R) (hd:deep<16) (hs:s.size≤1000000000000):
   OneC w R s (J.stepO (J.val d)) 110 #[.pointer (some ⟨w.heap.size,0,none⟩),.pointer (some ⟨w.heap.size+2,0,none⟩),.pointer (some ⟨w.heap.size+1,0,none⟩)] (ObjInv w R deep) (VBad (w.heap.size+2)):=by
 intro st q W hq hl1 hl2 hR hI;have cP:=pair_one hV hG hGR hd hs st q W hq hl1 hl2 hR hI;have c0:=cell_of_one hI.1;have c1:=cell_of_one hI.2.1;clear hR hI hV hl1 hl2;go_enter Tryz.func110,Tryz.ntmps110;go_wp2_with fail;refine cP.mono ?_;intro e w2 hen;clear cP;rcases hen with ⟨p',r,hx,rfl,hr,hi⟩|⟨n,er,q',hx,hq',rfl,hr,hb⟩
 · have H:=hid (show _∧_∧_ from ⟨hx,hr,hi⟩);clear hx hr hi;go_wp2_with fail;go_ret;exact Or.inl ⟨p',r,H.out.1,rfl,H.out.2.1,H.out.2.2⟩
 · have H:=hid (show _∧_∧_ from ⟨hx,hr,hb⟩);clear hx hr hb;go_wp2_with fail;go_ret;exact Or.inr ⟨n,er,q',H.out.1,hq',rfl,H.out.2.1,H.out.2.2⟩
open Go.Lib
namespace J
def foldV (acc:Nat) (ds:List UInt8):Nat:=ds.foldl (fun a c=>10*a+(c.toNat-48)) acc
theorem foldV_cons (acc:Nat) (c:UInt8) (r:List UInt8):foldV acc (c::r)=foldV (10*acc+(c.toNat-48)) r:=by unfold foldV;rw [List.foldl_cons]
theorem foldV_ge:∀(ds:List UInt8) (acc:Nat),acc≤foldV acc ds
 | [],_=>Nat.le_refl _
 | c::r,acc=>by
   rw [foldV_cons]
   have:=foldV_ge r (10*acc+(c.toNat-48))
   omega
theorem pUM_cons (M acc:Nat) (c:UInt8) (r:List UInt8):parseUintM M acc (c::r)=if 48≤c.toNat∧c.toNat≤57 then (if 1844674407370955162≤acc then .range else if M<acc*10+(c.toNat-48) then .range else parseUintM M (acc*10+(c.toNat-48)) r) else Go.Lib.NumEnd.syntax:=rfl
theorem pUM_digs (M:Nat) (hM:M≤18446744073709551615) (hM':18446744073709551615≤M) (ds:List UInt8):∀(acc:Nat),(∀c∈ds,dig c=true)→acc≤M→parseUintM M acc ds=if foldV acc ds≤M then .ok (foldV acc ds) else .range:=by
 induction ds with
 | nil=>
   intro acc _ h;have e:foldV acc []=acc:=rfl;rw [e,if_pos h];rfl
 | cons c r ih=>
   intro acc hd h;have hc:48≤c.toNat∧c.toNat≤57:=by simpa [dig] using hd c (List.mem_cons_self ..)
   have hge:=foldV_ge r (10*acc+(c.toNat-48));rw [foldV_cons,pUM_cons,if_pos hc,show acc*10+(c.toNat-48)=10*acc+(c.toNat-48) by omega];by_cases h1:1844674407370955162≤acc
   · rw [if_pos h1,if_neg (by omega)]
   · rw [if_neg h1];by_cases h2:M<10*acc+(c.toNat-48)
     · rw [if_pos h2,if_neg (by omega)]
     · rw [if_neg h2];exact ih _ (fun x hx=>hd x (List.mem_cons_of_mem _ hx)) (by omega)
theorem pUB_digs {ds:List UInt8}(h0:ds≠ []) (hd:∀c∈ds,dig c=true):parseUintB 64 ds=if numV ds≤18446744073709551615 then .ok (numV ds) else .range:=by
 unfold parseUintB;rw [if_neg h0];exact pUM_digs _ (by decide) (by decide) ds 0 hd (by omega)
theorem lib_neg {ds:List UInt8}(h0:ds≠ []) (hd:∀c∈ds,dig c=true):W.libP (45::ds)=if numV ds≤9223372036854775808 then some (-((numV ds:Nat):Int)) else none:=by
 unfold W.libP;simp only [parseIntB];have e45:(45:UInt8).toNat=45:=rfl;rw [e45,if_pos (Or.inr rfl),pUB_digs h0 hd];have e:(2 ^ (64-1):Nat)=9223372036854775808:=by decide
 rw [e];generalize numV ds=n;by_cases h1:n≤18446744073709551615
 · rw [if_pos h1];simp only [not_true_eq_false,false_and,if_false,true_and,if_true];by_cases h2:n≤9223372036854775808
   · rw [if_pos h2,if_neg (by omega)]
   · rw [if_neg h2,if_pos (by omega)]
 · rw [if_neg h1,if_neg (by omega)]
theorem lib_pos {ds:List UInt8}(h0:ds≠ []) (hd:∀c∈ds,dig c=true):W.libP ds=if numV ds≤9223372036854775807 then some ((numV ds:Nat):Int) else none:=by
 unfold W.libP;have hp:=pUB_digs h0 hd;cases ds with
 | nil=>exact absurd rfl h0
 | cons c r=>
   have hc:48≤c.toNat∧c.toNat≤57:=by simpa [dig] using hd c (List.mem_cons_self ..)
   simp only [parseIntB];rw [if_neg (by omega),hp];have e:(2 ^ (64-1):Nat)=9223372036854775808:=by decide
   rw [e];have e45:¬ c.toNat=45:=by omega
   generalize numV (c::r)=n;by_cases h1:n≤18446744073709551615
   · rw [if_pos h1];simp only [e45,not_false_eq_true,true_and,false_and,if_false];by_cases h2:n≤9223372036854775807
     · rw [if_pos h2,if_neg (by omega)]
     · rw [if_neg h2,if_pos (by omega)]
   · rw [if_neg h1,if_neg (by omega)]
def numR (neg:Bool) (tot:Nat) (l1 ds rest:List UInt8):Res Int:=
 match ds with
 | []=> .error (l1.length,4)
 | d::more=>
   if d=48∧more≠ [] then .error (l1.length-1,4)
   else if neg=true∧d=48 then .error (l1.length,4)
   else if neg=true then (if numV ds≤9223372036854775808 then .ok (-(numV ds:Nat),rest) else .error (tot,91))
   else if numV ds≤9223372036854775807 then .ok ((numV ds:Nat),rest) else .error (tot,91)
theorem num_minus (l1:List UInt8):num (45::l1)=numR true (l1.length+1) l1 (l1.takeWhile dig) (l1.dropWhile dig):=rfl
theorem num_plain {c:UInt8}{l:List UInt8}(h:c≠45):num (c::l)=numR false (l.length+1) (c::l) ((c::l).takeWhile dig) ((c::l).dropWhile dig):=by
 have hh:((c::l).head? ==some 45)=false:=by simp [h]
 unfold num numR;simp only [hh,Bool.false_eq_true,if_false,List.length_cons,false_and];cases List.takeWhile dig (c::l)<;>rfl
theorem take_digs (l:List UInt8):∀c∈l.takeWhile dig,dig c=true:=by
 have:=List.all_takeWhile (l:=l) (p:=dig);rw [List.all_eq_true] at this;exact this
theorem digs_len (l:List UInt8):(l.takeWhile dig).length≤l.length:=(List.takeWhile_prefix (p:=dig) (l:=l)).length_le
theorem dig_there {l:List UInt8}{k:Nat}(h:k<(l.takeWhile dig).length):∃h':k<l.length,dig (l[k]'(h'))=true∧(l.takeWhile dig)[k]=l[k]'(h'):=by
 have h':k<l.length:=Nat.lt_of_lt_of_le h (digs_len l);have hp:=List.takeWhile_prefix (p:=dig) (l:=l);have e:=hp.getElem h;exact ⟨h',by rw [←e];exact take_digs l _ (List.getElem_mem h),e⟩
theorem dig_not:∀ {l:List UInt8}(h:(l.takeWhile dig).length<l.length),dig (l[(l.takeWhile dig).length]'h)=false
 | c::r,h=>by
   by_cases hc:dig c=true
   · simp only [List.takeWhile_cons,hc,if_true,List.length_cons,Nat.add_lt_add_iff_right] at h
     have:=dig_not h
     simpa [List.takeWhile_cons,hc] using this
   · simp [hc]
theorem digs_drop (l:List UInt8):l.dropWhile dig=l.drop (l.takeWhile dig).length:=by
 induction l with
 | nil=>rfl
 | cons c r ih=>
   by_cases hc:dig c=true
   · simp [hc,ih]
   · simp [hc]
end J
end Go.Proofs.YtohkomndapngjaaGreatDoor

