/- value$1: one value more into a list. -/
import Derived.Test.YtohkomndapngjaaGreatDoorRN6
import Derived.Deep.RegionHeld3
import Derived.Deep.RegionWith
import Derived.BigRegion
import Derived.Deep.RegionLaw
import Derived.Deep.AppendLies
import Derived.Test.YtohkomndapngjaaGreatDoorShelfS
import Derived.Lib.SlicesS
import Derived.ProofKit
namespace Go.Proofs.YtohkomndapngjaaGreatDoor
set_option maxRecDepth 100000
set_option maxHeartbeats 16000000
open Go.RowKit
open Go.Lib (hid)
theorem infoJSON2:(Tryz.prog.info? 26).map (fun i=>(i.zero,i.size,i.bytes))=some (some (.agg #[.int .u8 0,.bool false,.int .i64 0,.string ⟨#[]⟩,.slice none 0 0,.slice none 0 0]),6,80):=by kernel_rfl
def ListInv (w:World) (R deep:Nat) (p:J.T×List ByteArray) (W:World):Prop:=
 W.heap[w.heap.size]? =some (.cells #[.pointer (some ⟨R,0,none⟩)] 145 (0,0))∧W.heap[w.heap.size+1]? =some (.cells #[.int .i64 deep] 3 (0,0))∧
 p.2= []∧∃t':J.T,t'.loose p.1∧VSt (w.heap.size+3) (w.heap.size+2) 5 t' [] W
theorem keepV {w3 w6:World}{V B n sz:Nat}{v:Value}{E:TypeId}{cs:List Value}{Z O:Obj}(h:((w3.alloc Z).drew).grownBy w6 v.ownBlock) (ho:((w3.alloc Z).drew).ownsRow B E sz v n cs) (hv:V<B∧B≤w3.heap.size∧V<w3.heap.size) (hb:w3.heap[V]? =some O):w6.heap[V]? =some O:=by
 rw [h.block V (by show V<(w3.alloc Z).heap.size;simp;omega) (fun e=>by have:=(World.ownsRow.lt ho V e.symm).1;omega)];show (w3.alloc Z).heap[V]? =_;rw [Lib.alloc_old w3 _ V hv.2.2];exact hb
theorem push_facts {w6:World}{B n g cap:Nat}{E:TypeId}{ts:List Value}(h:w6.ownsRow B E 6 (.slice (some ⟨g,0,none⟩) (n+1) cap) (n+1) (ts++zero6)) (hl:ts.length=n*6):
  w6.cell? ⟨g,n*6,none⟩=some (.int .u8 0)∧w6.cell? ⟨g,n*6+1,none⟩=some (.bool false)∧w6.cell? ⟨g,n*6+2,none⟩=some (.int .i64 0)∧w6.cell? ⟨g,n*6+3,none⟩=some (.string ⟨#[]⟩)∧w6.cell? ⟨g,n*6+4,none⟩=some (.slice none 0 0)∧w6.cell? ⟨g,n*6+5,none⟩=some (.slice none 0 0)∧
  w6.frozen? ⟨g,n*6,none⟩=false∧w6.frozen? ⟨g,n*6+1,none⟩=false∧w6.frozen? ⟨g,n*6+2,none⟩=false∧w6.frozen? ⟨g,n*6+3,none⟩=false∧w6.frozen? ⟨g,n*6+4,none⟩=false∧w6.frozen? ⟨g,n*6+5,none⟩=false∧B≤g:=by
 have hc:∀i,i<6→w6.cell? ⟨g,n*6+i,none⟩=zero6[i]? :=fun i hi=>by
  rw [World.ownsRow.cellAt h (n*6+i) (by omega),List.getElem?_append_right (by omega),hl];congr 1;omega
 exact ⟨hc 0 (by omega),hc 1 (by omega),hc 2 (by omega),hc 3 (by omega),hc 4 (by omega),hc 5 (by omega),World.ownsRow.frozenAt h _,World.ownsRow.frozenAt h _,World.ownsRow.frozenAt h _,World.ownsRow.frozenAt h _,World.ownsRow.frozenAt h _,World.ownsRow.frozenAt h _,(World.ownsRow.lt h g rfl).1⟩
theorem list_end {w W w2 w6 WF:World}{R d deep q n g cap:Nat}{s:ByteArray}{st:J.T×List ByteArray}{t':J.T}{lv nv:Value}{ts:List Value}{b:Bool}{c0 c1 c2 c3 c4 c5:Value}{ZX Z:Obj}(hR:Rdr w R s q 0 0 W) (hI:ListInv w R deep st W) (ht:t'.loose st.1)
   (hP:VP (w.heap.size+3) (w.heap.size+2) 5 t' [] W lv nv ts) (hn:t'.length=n) (hV:Parts W R s (J.val d (s.data.toList.drop q)) b [c0,c1,c2,c3,c4,c5] w2)
   (hgrow:(((w2.alloc ZX).alloc Z).drew).grownBy w6 lv.ownBlock) (hat:lv.ownBlock=some g∨g=(((w2.alloc ZX).alloc Z).drew).heap.size)
   (hown:w6.ownsRow (w.heap.size+3) 26 6 (.slice (some ⟨g,0,none⟩) (n+1) cap) (n+1) (ts++zero6))
   (hWF:WF=(st6 w6 g (n*6) c0 c1 c2 c3 c4 c5).setCell ⟨w.heap.size+2,4,none⟩ (.slice (some ⟨g,0,none⟩) (n+1) cap)∨WF=st6 (w6.setCell ⟨w.heap.size+2,4,none⟩ (.slice (some ⟨g,0,none⟩) (n+1) cap)) g (n*6) c0 c1 c2 c3 c4 c5):
   OneOf w R s (J.stepL (J.val d) st (s.data.toList.drop q)) (ListInv w R deep) (VBad (w.heap.size+2)) (.returned (.bool b)) WF:=by
 have hRlt:=hR.lt;have hg:=hV.g;have hP2:=hP.kept hg (by omega) (by omega);have hlt1:=World.ownsRow.lt hP.l;have hlt2:=World.ownsRow.lt hP.n;have hVW:=Go.lt_of_block hP.v;have hs2:=hg.size;have hsz3:(((w2.alloc ZX).alloc Z).drew).heap.size=w2.heap.size+2:=by show ((w2.alloc ZX).alloc Z).heap.size=_;simp
 have hold:∀k,k<w2.heap.size→(((w2.alloc ZX).alloc Z).drew).heap[k]? =w2.heap[k]? :=fun k hk=>by
   show ((w2.alloc ZX).alloc Z).heap[k]? =_;rw [Lib.alloc_old _ _ k (by simp;omega),Lib.alloc_old _ _ k hk]
 have hV6:w6.heap[w.heap.size+2]? =some (vRow 5 lv nv):=by
   rw [hgrow.block _ (by rw [hsz3];omega) (fun e=>by have:=(hlt1 _ e.symm).1;omega),hold _ (by omega)];exact hP2.v
 have hts:ts.length=n*6:=by rw [←hn];exact hP.l.1
 obtain ⟨d1,d2,⟨d3,d4,d5,d6⟩,d7⟩:=push_done hown hts hV6 (by omega) hWF;have hgB:=(World.ownsRow.lt hown g rfl).1;have hsz6:=hgrow.size;rw [hsz3] at hsz6;have hfar:∀k,k<w2.heap.size→lv.ownBlock≠some k→k≠w.heap.size+2→WF.heap[k]? =w2.heap[k]? :=fun k h1 h2 h3=>by
   have hkg:k≠g:=by
     rcases hat with hat|hat
     · intro e;rw [e] at h2;exact h2 hat
     · rw [hsz3] at hat;omega
   rw [d7 k hkg h3,hgrow.block k (by rw [hsz3];omega) (fun e=>h2 e.symm),hold k h1]
 have hlow:∀k,k<w.heap.size+3→k≠w.heap.size+2→WF.heap[k]? =w2.heap[k]? :=fun k h1 h2=>hfar k (by omega) (fun e=>by have:=(hlt1 k e).1;omega) h2
 have hbel:Below w.heap.size w2 WF:=⟨d3.trans hgrow.os,d4.trans hgrow.tape,d5.trans hgrow.output,by omega,fun k hk=>hlow k (by omega) (by omega)⟩;have hbox:WF.heap[w.heap.size]? =some (.cells #[.pointer (some ⟨R,0,none⟩)] 145 (0,0))∧WF.heap[w.heap.size+1]? =some (.cells #[.int .i64 deep] 3 (0,0)):=by
   constructor
   · rw [hlow _ (by omega) (by omega),hg.block _ (by omega) (fun e=>by have:=Option.some.inj e;omega)];exact hI.1
   · rw [hlow _ (by omega) (by omega),hg.block _ (by omega) (fun e=>by have:=Option.some.inj e;omega)];exact hI.2.1
 obtain ⟨na,nc,hnv⟩:=own_shape hP.n;unfold J.stepL;rcases hV with ⟨rfl,y,v,r,hx,hlo,hh,hr⟩|⟨rfl,m,er,q',hx,hq',hr⟩
 · rw [hx];left;refine ⟨_,_,rfl,rfl,(hR.trans hr).under hbel (Nat.le_refl _),hbox.1,hbox.2,hI.2.2.1,t'.snoc v,J.T.loose_snoc ht hlo,?_⟩;have hnn:WF.ownsRow (w.heap.size+3) 9 1 nv ([]:List ByteArray).length (([]:List ByteArray).map Value.string):=by
     have h0:=hP2.n;rcases h0.2 with ⟨rfl,h1⟩|⟨g2,cap2,cur2,h1,h2,h3,h4⟩
     · exact World.ownsRow_nil _ _ _ _
     · refine ⟨h0.1,Or.inr ⟨g2,cap2,cur2,h1,h2,?_,h4⟩⟩;rw [hfar g2 (Go.lt_of_block h3) (fun e=>hP2.apart e (by rw [h1];rfl)) (by omega)];exact h3
   have:=VP.push (H0:=W.heap.size) hP2 hh (by omega) (fun k hk=>(hlt1 k hk).2) (fun k hk=>(hlt2 k hk).2) (by omega) (fun k h1 h2 _ h3=>hfar k h1 h2 h3) (by omega) (by rw [hn];exact d1) (by rcases hat with hat|hat;exact Or.inl hat;rw [hsz3] at hat;exact Or.inr (by omega)) (by rw [hn];exact d2) hnn (fun k hk=>Or.inl hk);exact ⟨_,_,_,this⟩
 · rw [hx];right;exact ⟨_,_,_,rfl,hq',rfl,(hR.trans hr).under hbel (Nat.le_refl _),by rw [hnv] at d2;exact ⟨_,_,_,_,_,_,_,d2⟩⟩
theorem list_one {w:World}{G R:Nat}{s:ByteArray}{d deep:Nat}(hV:ValC G R s d (deep+1)) (hG:Ground G w) (hGR:G≤R) (hd:deep<16) (hs:s.size≤1000000000000):
   OneC w R s (J.stepL (J.val d)) 109 #[.pointer (some ⟨w.heap.size,0,none⟩),.pointer (some ⟨w.heap.size+1,0,none⟩),.pointer (some ⟨w.heap.size+2,0,none⟩)] (ListInv w R deep) (VBad (w.heap.size+2)):=by
 intro st q W hq hl1 hl2 hR hI;have HR:=hid hR;have HI:=hid hI;have cV:=hV q W hR.own hq (hG.keep (hR.base hGR));obtain ⟨hr1,hd1, -, -⟩:=hI;have c0:=cell_of_one hr1;have c1:=cell_of_one hd1;obtain ⟨dp,hdp⟩:∃dp,deep+1=dp:=⟨_,rfl⟩;rw [hdp] at cV;have e1:(deep:Int)+1=(dp:Int):=by omega
 have e2:IntKind.i64.wrap (dp:Int)=(dp:Int):=by rw [IntKind.wrap_i64];omega
 clear hr1 hd1 hR hV;go_enter Tryz.func109,Tryz.ntmps109;go_wp2_with fail;refine cV.mono ?_;intro e w2 hval;obtain ⟨b,cs,rfl,⟨k',b',n',s',a1,l1,q1,a2,l2,q2,rfl⟩,hparts⟩:=hval.parts;have HV:Hid (Parts W R s (J.val d (s.data.toList.drop q)) b [.int .u8 k',.bool b',.int .i64 n',.string s',.slice a1 l1 q1,.slice a2 l2 q2] w2):=hparts;obtain ⟨_,_,_,t',ht',lv,nv,ts,hPW⟩:=HI.out;have hg2:=HV.out.g;have hP2:=hPW.kept hg2 (by have:=HR.out.lt;omega) (by have:=HR.out.lt;omega);have HPW:=hid hPW;have HT:=hid ht';obtain ⟨hv1,hv2, -, -⟩:=hP2;obtain ⟨la,lc,rfl⟩:=own_shape hv2;have hlen:t'.length≤1000000000000:=by rw [J.T.loose_len ht'];omega
 obtain ⟨n,hn⟩:∃n,t'.length=n:=⟨_,rfl⟩;rw [hn] at hv2 hv1 hlen HPW;have HN:=hid hn;have FIN:=hid (fun g cap w6 WF hown hgrow hat hWF=>list_end (n:=n) (g:=g) (cap:=cap) (w6:=w6) (WF:=WF) (ZX:= .cells #[.int .u8 k',.bool b',.int .i64 n',.string s',.slice a1 l1 q1,.slice a2 l2 q2] 26) (Z:= .cells #[.int .u8 0,.bool false,.int .i64 0,.string ⟨#[]⟩,.slice none 0 0,.slice none 0 0] 26) HR.out HI.out HT.out HPW.out HN.out HV.out hgrow hat hown hWF);have hts:ts.length=n*6:=hv2.1;clear hval cV hdp ht' hn hparts hPW hg2;go_upto_region 2 with fail;have HX:Hid ((w2.alloc (.cells #[.int .u8 k',.bool b',.int .i64 n',.string s',.slice a1 l1 q1,.slice a2 l2 q2] 26)).heap[w2.heap.size]? =some (.cells #[.int .u8 k',.bool b',.int .i64 n',.string s',.slice a1 l1 q1,.slice a2 l2 q2] 26 (0,0))):=heap_alloc_new w2 _;have H1:=hid (Go.Lib.alloc_old w2 (.cells #[.int .u8 k',.bool b',.int .i64 n',.string s',.slice a1 l1 q1,.slice a2 l2 q2] 26) _ (Go.lt_of_block hv1));have H2:=hid (World.ownsRow.alloc hv2 (.cells #[.int .u8 k',.bool b',.int .i64 n',.string s',.slice a1 l1 q1,.slice a2 l2 q2] 26));obtain ⟨w3,hw3⟩:∃w3,w2.alloc (.cells #[.int .u8 k',.bool b',.int .i64 n',.string s',.slice a1 l1 q1,.slice a2 l2 q2] 26)=w3:=⟨_,rfl⟩;rw [hw3] at HX H1 H2 ⊢;obtain ⟨X,hX⟩:∃X,w2.heap.size=X:=⟨_,rfl⟩;rw [hX] at HX ⊢;have hsz3:w3.heap.size=X+1:=by rw [←hw3,←hX];simp
 obtain ⟨V,hVe⟩:∃V,w.heap.size+2=V:=⟨_,rfl⟩;obtain ⟨B,hB⟩:∃B,w.heap.size+3=B:=⟨_,rfl⟩;rw [hVe] at H1 hv1 ⊢;rw [hB] at H2;have cv4:w3.cell? ⟨V,4,none⟩=some (.slice la n lc):=by
   have:w3.heap[V]? =some (vRow 5 (.slice la n lc) nv):=H1.out.trans hv1;rw [Lib.cell_of_heap this];rfl
 have fv4:w3.frozen? ⟨V,4,none⟩=false:=by
   have:w3.heap[V]? =some (vRow 5 (.slice la n lc) nv):=H1.out.trans hv1;exact Lib.frozen_of_heap this 4
 have x0:w3.cell? ⟨X,0,none⟩=some (.int .u8 k'):=by rw [Lib.cell_of_heap HX.out];rfl
 have x1:w3.cell? ⟨X,1,none⟩=some (.bool b'):=by rw [Lib.cell_of_heap HX.out];rfl
 have x2:w3.cell? ⟨X,2,none⟩=some (.int .i64 n'):=by rw [Lib.cell_of_heap HX.out];rfl
 have x3:w3.cell? ⟨X,3,none⟩=some (.string s'):=by rw [Lib.cell_of_heap HX.out];rfl
 have x4:w3.cell? ⟨X,4,none⟩=some (.slice a1 l1 q1):=by rw [Lib.cell_of_heap HX.out];rfl
 have x5:w3.cell? ⟨X,5,none⟩=some (.slice a2 l2 q2):=by rw [Lib.cell_of_heap HX.out];rfl
 obtain ⟨i0,hi,hz0,hz1,hz2⟩:=info_parts infoJSON2;have HVB:Hid (V<B∧B≤w3.heap.size∧V<w3.heap.size):=by
   have:=Go.lt_of_block hv1;have:=HR.out.lt;show _∧_∧_;omega
 have hB3:=HVB.out.2.1;have H1V:Hid (w3.heap[V]? =some (vRow 5 (.slice la n lc) nv)):=H1.out.trans hv1;have HSZ:=hid hsz3;clear hsz3;have HW3:=hid hw3;have HVE:=hid hVe;rw [hVe,hB,hw3] at FIN;clear hw3 hX hVe hB hv1 hl1 hl2 c0 c1 e1 e2 H1;have htest:=(World.news_of_block (heap_alloc_new w3 (.cells zero6.toArray 26)));have htest2:=(World.ownsRow.drew (World.ownsRow.alloc H2.out (.cells zero6.toArray 26)));have hbd:(n+1)*80≤140737488355328:=by omega
 have hmx:n+1≤maxLen:=by unfold maxLen;omega
 have hn1:(n:Int)<(n:Int)+1:=by omega
 have hX3:X<w3.heap.size:=Go.lt_of_block HX.out;have z0:=(((Below.refl w3.heap.size w3).alloc (Nat.le_refl _) (.cells #[.int .u8 0,.bool false,.int .i64 0,.string ⟨#[]⟩,.slice none 0 0,.slice none 0 0] 26)).cell (p:=⟨X,0,none⟩) hX3).trans x0;have z1:=(((Below.refl w3.heap.size w3).alloc (Nat.le_refl _) (.cells #[.int .u8 0,.bool false,.int .i64 0,.string ⟨#[]⟩,.slice none 0 0,.slice none 0 0] 26)).cell (p:=⟨X,1,none⟩) hX3).trans x1;have z2:=(((Below.refl w3.heap.size w3).alloc (Nat.le_refl _) (.cells #[.int .u8 0,.bool false,.int .i64 0,.string ⟨#[]⟩,.slice none 0 0,.slice none 0 0] 26)).cell (p:=⟨X,2,none⟩) hX3).trans x2;have z3:=(((Below.refl w3.heap.size w3).alloc (Nat.le_refl _) (.cells #[.int .u8 0,.bool false,.int .i64 0,.string ⟨#[]⟩,.slice none 0 0,.slice none 0 0] 26)).cell (p:=⟨X,3,none⟩) hX3).trans x3;have z4:=(((Below.refl w3.heap.size w3).alloc (Nat.le_refl _) (.cells #[.int .u8 0,.bool false,.int .i64 0,.string ⟨#[]⟩,.slice none 0 0,.slice none 0 0] 26)).cell (p:=⟨X,4,none⟩) hX3).trans x4;have z5:=(((Below.refl w3.heap.size w3).alloc (Nat.le_refl _) (.cells #[.int .u8 0,.bool false,.int .i64 0,.string ⟨#[]⟩,.slice none 0 0,.slice none 0 0] 26)).cell (p:=⟨X,5,none⟩) hX3).trans x5;have zv:=(((Below.refl w3.heap.size w3).alloc (Nat.le_refl _) (.cells #[.int .u8 0,.bool false,.int .i64 0,.string ⟨#[]⟩,.slice none 0 0,.slice none 0 0] 26)).cell (p:=⟨V,4,none⟩) HVB.out.2.2).trans cv4;go_region_law (refine step_append_lies _ (by rfl) (.tmp 14) (.tmp 17) 22 (by rfl) B 26 i0 _ 6 80 Tryz.underlying22 hi hz0 hz1 hz2 rfl (by decide) (.slice la n lc) n ts (by rfl) htest2 ⟨w3.heap.size,0,none⟩ 1 1 zero6 (by rfl) rfl htest Shape.zero.one (by decide) hmx hbd (Nat.le_trans hB3 (by simp)) _ rfl ?_;intro g cap w6 hown hgrow hat hlt;(have KV:=keepV hgrow htest2 HVB.out H1V.out);(have FV:=Lib.frozen_of_heap KV 4);(have CV:w6.cell? ⟨V,4,none⟩=some (.slice la n lc):=by rw [Lib.cell_of_heap KV];rfl);(have HKV:=hid KV);clear KV;(obtain ⟨y0,y1,y2,y3,y4,y5,f0,f1,f2,f3,f4,f5,hgB⟩:=push_facts hown hts);(have gv1:g≠V:=by have:=HVB.out.1;omega);(have gv2:V≠g:=by omega);(have HO:=hid hown);(have HG:=hid hgrow);clear hown hgrow)
 · clear x0 x1 x2 x3 x4 x5 z0 z1 z2 z3 z4 z5 zv y0 y1 y2 y3 y4 y5 f0 f1 f2 f3 f4 f5 CV FV cv4;have FZ:∀(en:Ending) (WF:World),en= .returned (.bool b)→(WF=(st6 w6 g (n*6) (.int .u8 k') (.bool b') (.int .i64 n') (.string s') (.slice a1 l1 q1) (.slice a2 l2 q2)).setCell ⟨V,4,none⟩ (.slice (some ⟨g,0,none⟩) (n+1) cap)∨WF=st6 (w6.setCell ⟨V,4,none⟩ (.slice (some ⟨g,0,none⟩) (n+1) cap)) g (n*6) (.int .u8 k') (.bool b') (.int .i64 n') (.string s') (.slice a1 l1 q1) (.slice a2 l2 q2))→OneOf w R s (J.stepL (J.val d) st (s.data.toList.drop q)) (ListInv w R deep) (VBad (w.heap.size+2)) en WF:=fun en WF h1 h2=>by rw [h1,HVE.out];exact FIN.out g cap w6 WF HO.out HG.out hat h2
   have HFZ:=hid FZ;clear FZ;go_wp2_with fail;go_ret;have FZ:=HFZ.out;with_reducible refine FZ _ _ ?_ (Or.inl rfl)
   rfl
 · clear x0 x1 x2 x3 x4 x5 z0 z1 z2 z3 z4 z5 zv y0 y1 y2 y3 y4 y5 f0 f1 f2 f3 f4 f5 CV FV cv4;have FZ:∀(en:Ending) (WF:World),en= .returned (.bool b)→(WF=(st6 w6 g (n*6) (.int .u8 k') (.bool b') (.int .i64 n') (.string s') (.slice a1 l1 q1) (.slice a2 l2 q2)).setCell ⟨V,4,none⟩ (.slice (some ⟨g,0,none⟩) (n+1) cap)∨WF=st6 (w6.setCell ⟨V,4,none⟩ (.slice (some ⟨g,0,none⟩) (n+1) cap)) g (n*6) (.int .u8 k') (.bool b') (.int .i64 n') (.string s') (.slice a1 l1 q1) (.slice a2 l2 q2))→OneOf w R s (J.stepL (J.val d) st (s.data.toList.drop q)) (ListInv w R deep) (VBad (w.heap.size+2)) en WF:=fun en WF h1 h2=>by rw [h1,HVE.out];exact FIN.out g cap w6 WF HO.out HG.out hat h2
   have HFZ:=hid FZ;clear FZ;go_wp2_with fail;go_ret;have FZ:=HFZ.out;with_reducible refine FZ _ _ ?_ (Or.inr rfl)
   rfl
 · clear x0 x1 x2 x3 x4 x5 z0 z1 z2 z3 z4 z5 zv y0 y1 y2 y3 y4 y5 f0 f1 f2 f3 f4 f5 CV FV cv4;have FZ:∀(en:Ending) (WF:World),en= .returned (.bool b)→(WF=(st6 w6 g (n*6) (.int .u8 k') (.bool b') (.int .i64 n') (.string s') (.slice a1 l1 q1) (.slice a2 l2 q2)).setCell ⟨V,4,none⟩ (.slice (some ⟨g,0,none⟩) (n+1) cap)∨WF=st6 (w6.setCell ⟨V,4,none⟩ (.slice (some ⟨g,0,none⟩) (n+1) cap)) g (n*6) (.int .u8 k') (.bool b') (.int .i64 n') (.string s') (.slice a1 l1 q1) (.slice a2 l2 q2))→OneOf w R s (J.stepL (J.val d) st (s.data.toList.drop q)) (ListInv w R deep) (VBad (w.heap.size+2)) en WF:=fun en WF h1 h2=>by rw [h1,HVE.out];exact FIN.out g cap w6 WF HO.out HG.out hat h2
   have HFZ:=hid FZ;clear FZ;go_wp2_with fail;go_ret;have FZ:=HFZ.out;with_reducible refine FZ _ _ ?_ (Or.inl rfl)
   rfl
 · clear x0 x1 x2 x3 x4 x5 z0 z1 z2 z3 z4 z5 zv y0 y1 y2 y3 y4 y5 f0 f1 f2 f3 f4 f5 CV FV cv4;have FZ:∀(en:Ending) (WF:World),en= .returned (.bool b)→(WF=(st6 w6 g (n*6) (.int .u8 k') (.bool b') (.int .i64 n') (.string s') (.slice a1 l1 q1) (.slice a2 l2 q2)).setCell ⟨V,4,none⟩ (.slice (some ⟨g,0,none⟩) (n+1) cap)∨WF=st6 (w6.setCell ⟨V,4,none⟩ (.slice (some ⟨g,0,none⟩) (n+1) cap)) g (n*6) (.int .u8 k') (.bool b') (.int .i64 n') (.string s') (.slice a1 l1 q1) (.slice a2 l2 q2))→OneOf w R s (J.stepL (J.val d) st (s.data.toList.drop q)) (ListInv w R deep) (VBad (w.heap.size+2)) en WF:=fun en WF h1 h2=>by rw [h1,HVE.out];exact FIN.out g cap w6 WF HO.out HG.out hat h2
   have HFZ:=hid FZ;clear FZ;go_wp2_with fail;go_ret;have FZ:=HFZ.out;with_reducible refine FZ _ _ ?_ (Or.inr rfl)
   rfl
 · clear x0 x1 x2 x3 x4 x5 z0 z1 z2 z3 z4 z5 zv y0 y1 y2 y3 y4 y5 f0 f1 f2 f3 f4 f5 CV FV cv4;have FZ:∀(en:Ending) (WF:World),en= .returned (.bool b)→(WF=(st6 w6 g (n*6) (.int .u8 k') (.bool b') (.int .i64 n') (.string s') (.slice a1 l1 q1) (.slice a2 l2 q2)).setCell ⟨V,4,none⟩ (.slice (some ⟨g,0,none⟩) (n+1) cap)∨WF=st6 (w6.setCell ⟨V,4,none⟩ (.slice (some ⟨g,0,none⟩) (n+1) cap)) g (n*6) (.int .u8 k') (.bool b') (.int .i64 n') (.string s') (.slice a1 l1 q1) (.slice a2 l2 q2))→OneOf w R s (J.stepL (J.val d) st (s.data.toList.drop q)) (ListInv w R deep) (VBad (w.heap.size+2)) en WF:=fun en WF h1 h2=>by rw [h1,HVE.out];exact FIN.out g cap w6 WF HO.out HG.out hat h2
   have HFZ:=hid FZ;clear FZ;go_wp2_with fail;go_ret;have FZ:=HFZ.out;with_reducible refine FZ _ _ ?_ (Or.inl rfl)
   rfl
 · clear x0 x1 x2 x3 x4 x5 z0 z1 z2 z3 z4 z5 zv y0 y1 y2 y3 y4 y5 f0 f1 f2 f3 f4 f5 CV FV cv4;have FZ:∀(en:Ending) (WF:World),en= .returned (.bool b)→(WF=(st6 w6 g (n*6) (.int .u8 k') (.bool b') (.int .i64 n') (.string s') (.slice a1 l1 q1) (.slice a2 l2 q2)).setCell ⟨V,4,none⟩ (.slice (some ⟨g,0,none⟩) (n+1) cap)∨WF=st6 (w6.setCell ⟨V,4,none⟩ (.slice (some ⟨g,0,none⟩) (n+1) cap)) g (n*6) (.int .u8 k') (.bool b') (.int .i64 n') (.string s') (.slice a1 l1 q1) (.slice a2 l2 q2))→OneOf w R s (J.stepL (J.val d) st (s.data.toList.drop q)) (ListInv w R deep) (VBad (w.heap.size+2)) en WF:=fun en WF h1 h2=>by rw [h1,HVE.out];exact FIN.out g cap w6 WF HO.out HG.out hat h2
   have HFZ:=hid FZ;clear FZ;go_wp2_with fail;go_ret;have FZ:=HFZ.out;with_reducible refine FZ _ _ ?_ (Or.inr rfl)
   rfl
 · clear x0 x1 x2 x3 x4 x5 z0 z1 z2 z3 z4 z5 zv y0 y1 y2 y3 y4 y5 f0 f1 f2 f3 f4 f5 CV FV cv4;have FZ:∀(en:Ending) (WF:World),en= .returned (.bool b)→(WF=(st6 w6 g (n*6) (.int .u8 k') (.bool b') (.int .i64 n') (.string s') (.slice a1 l1 q1) (.slice a2 l2 q2)).setCell ⟨V,4,none⟩ (.slice (some ⟨g,0,none⟩) (n+1) cap)∨WF=st6 (w6.setCell ⟨V,4,none⟩ (.slice (some ⟨g,0,none⟩) (n+1) cap)) g (n*6) (.int .u8 k') (.bool b') (.int .i64 n') (.string s') (.slice a1 l1 q1) (.slice a2 l2 q2))→OneOf w R s (J.stepL (J.val d) st (s.data.toList.drop q)) (ListInv w R deep) (VBad (w.heap.size+2)) en WF:=fun en WF h1 h2=>by rw [h1,HVE.out];exact FIN.out g cap w6 WF HO.out HG.out hat h2
   have HFZ:=hid FZ;clear FZ;go_wp2_with fail;go_ret;have FZ:=HFZ.out;with_reducible refine FZ _ _ ?_ (Or.inl rfl)
   rfl
 · clear x0 x1 x2 x3 x4 x5 z0 z1 z2 z3 z4 z5 zv y0 y1 y2 y3 y4 y5 f0 f1 f2 f3 f4 f5 CV FV cv4;have FZ:∀(en:Ending) (WF:World),en= .returned (.bool b)→(WF=(st6 w6 g (n*6) (.int .u8 k') (.bool b') (.int .i64 n') (.string s') (.slice a1 l1 q1) (.slice a2 l2 q2)).setCell ⟨V,4,none⟩ (.slice (some ⟨g,0,none⟩) (n+1) cap)∨WF=st6 (w6.setCell ⟨V,4,none⟩ (.slice (some ⟨g,0,none⟩) (n+1) cap)) g (n*6) (.int .u8 k') (.bool b') (.int .i64 n') (.string s') (.slice a1 l1 q1) (.slice a2 l2 q2))→OneOf w R s (J.stepL (J.val d) st (s.data.toList.drop q)) (ListInv w R deep) (VBad (w.heap.size+2)) en WF:=fun en WF h1 h2=>by rw [h1,HVE.out];exact FIN.out g cap w6 WF HO.out HG.out hat h2
   have HFZ:=hid FZ;clear FZ;go_wp2_with fail;go_ret;have FZ:=HFZ.out;with_reducible refine FZ _ _ ?_ (Or.inr rfl)
   rfl
 · clear x0 x1 x2 x3 x4 x5 z0 z1 z2 z3 z4 z5 zv y0 y1 y2 y3 y4 y5 f0 f1 f2 f3 f4 f5 CV FV cv4;have FZ:∀(en:Ending) (WF:World),en= .returned (.bool b)→(WF=(st6 w6 g (n*6) (.int .u8 k') (.bool b') (.int .i64 n') (.string s') (.slice a1 l1 q1) (.slice a2 l2 q2)).setCell ⟨V,4,none⟩ (.slice (some ⟨g,0,none⟩) (n+1) cap)∨WF=st6 (w6.setCell ⟨V,4,none⟩ (.slice (some ⟨g,0,none⟩) (n+1) cap)) g (n*6) (.int .u8 k') (.bool b') (.int .i64 n') (.string s') (.slice a1 l1 q1) (.slice a2 l2 q2))→OneOf w R s (J.stepL (J.val d) st (s.data.toList.drop q)) (ListInv w R deep) (VBad (w.heap.size+2)) en WF:=fun en WF h1 h2=>by rw [h1,HVE.out];exact FIN.out g cap w6 WF HO.out HG.out hat h2
   have HFZ:=hid FZ;clear FZ;go_wp2_with fail;go_ret;have FZ:=HFZ.out;with_reducible refine FZ _ _ ?_ (Or.inl rfl)
   rfl
 · clear x0 x1 x2 x3 x4 x5 z0 z1 z2 z3 z4 z5 zv y0 y1 y2 y3 y4 y5 f0 f1 f2 f3 f4 f5 CV FV cv4;have FZ:∀(en:Ending) (WF:World),en= .returned (.bool b)→(WF=(st6 w6 g (n*6) (.int .u8 k') (.bool b') (.int .i64 n') (.string s') (.slice a1 l1 q1) (.slice a2 l2 q2)).setCell ⟨V,4,none⟩ (.slice (some ⟨g,0,none⟩) (n+1) cap)∨WF=st6 (w6.setCell ⟨V,4,none⟩ (.slice (some ⟨g,0,none⟩) (n+1) cap)) g (n*6) (.int .u8 k') (.bool b') (.int .i64 n') (.string s') (.slice a1 l1 q1) (.slice a2 l2 q2))→OneOf w R s (J.stepL (J.val d) st (s.data.toList.drop q)) (ListInv w R deep) (VBad (w.heap.size+2)) en WF:=fun en WF h1 h2=>by rw [h1,HVE.out];exact FIN.out g cap w6 WF HO.out HG.out hat h2
   have HFZ:=hid FZ;clear FZ;go_wp2_with fail;go_ret;have FZ:=HFZ.out;with_reducible refine FZ _ _ ?_ (Or.inr rfl)
   rfl
 · clear x0 x1 x2 x3 x4 x5 z0 z1 z2 z3 z4 z5 zv y0 y1 y2 y3 y4 y5 f0 f1 f2 f3 f4 f5 CV FV cv4;have FZ:∀(en:Ending) (WF:World),en= .returned (.bool b)→(WF=(st6 w6 g (n*6) (.int .u8 k') (.bool b') (.int .i64 n') (.string s') (.slice a1 l1 q1) (.slice a2 l2 q2)).setCell ⟨V,4,none⟩ (.slice (some ⟨g,0,none⟩) (n+1) cap)∨WF=st6 (w6.setCell ⟨V,4,none⟩ (.slice (some ⟨g,0,none⟩) (n+1) cap)) g (n*6) (.int .u8 k') (.bool b') (.int .i64 n') (.string s') (.slice a1 l1 q1) (.slice a2 l2 q2))→OneOf w R s (J.stepL (J.val d) st (s.data.toList.drop q)) (ListInv w R deep) (VBad (w.heap.size+2)) en WF:=fun en WF h1 h2=>by rw [h1,HVE.out];exact FIN.out g cap w6 WF HO.out HG.out hat h2
   have HFZ:=hid FZ;clear FZ;go_wp2_with fail;go_ret;have FZ:=HFZ.out;with_reducible refine FZ _ _ ?_ (Or.inl rfl)
   rfl
 · clear x0 x1 x2 x3 x4 x5 z0 z1 z2 z3 z4 z5 zv y0 y1 y2 y3 y4 y5 f0 f1 f2 f3 f4 f5 CV FV cv4;have FZ:∀(en:Ending) (WF:World),en= .returned (.bool b)→(WF=(st6 w6 g (n*6) (.int .u8 k') (.bool b') (.int .i64 n') (.string s') (.slice a1 l1 q1) (.slice a2 l2 q2)).setCell ⟨V,4,none⟩ (.slice (some ⟨g,0,none⟩) (n+1) cap)∨WF=st6 (w6.setCell ⟨V,4,none⟩ (.slice (some ⟨g,0,none⟩) (n+1) cap)) g (n*6) (.int .u8 k') (.bool b') (.int .i64 n') (.string s') (.slice a1 l1 q1) (.slice a2 l2 q2))→OneOf w R s (J.stepL (J.val d) st (s.data.toList.drop q)) (ListInv w R deep) (VBad (w.heap.size+2)) en WF:=fun en WF h1 h2=>by rw [h1,HVE.out];exact FIN.out g cap w6 WF HO.out HG.out hat h2
   have HFZ:=hid FZ;clear FZ;go_wp2_with fail;go_ret;have FZ:=HFZ.out;with_reducible refine FZ _ _ ?_ (Or.inr rfl)
   rfl
def ObjInv (w:World) (R deep:Nat) (p:J.T×List ByteArray) (W:World):Prop:=
 W.heap[w.heap.size]? =some (.cells #[.pointer (some ⟨R,0,none⟩)] 145 (0,0))∧W.heap[w.heap.size+1]? =some (.cells #[.int .i64 deep] 3 (0,0))∧
 ∃t':J.T,t'.loose p.1∧VSt (w.heap.size+3) (w.heap.size+2) 6 t' p.2 W
theorem contains_any {W:World}{B:Nat}{nv:Value}{ns:List ByteArray}(h:W.ownsRow B 9 1 nv ns.length (ns.map Value.string)) (x:ByteArray) (hl:ns.length≤1000000000000) (U:World) (hU:∀b,nv.ownBlock=some b→U.heap[b]? =W.heap[b]?):
   Calls Tryz.prog 61 #[nv,.string x] U fun e w'=>e= .returned (.bool (decide (x.data.toList∈ns.map (fun y=>y.data.toList))))∧w'=U:=by
 have hd:decide (x.data.toList∈ns.map (fun y=>y.data.toList))=Lib.containsS ns x:=by
   rw [Bool.eq_iff_iff,decide_eq_true_iff,Lib.containsS_iff];constructor
   · intro h;obtain ⟨y,hy,he⟩:=List.mem_map.1 h;have:y=x:=ByteArray.ext (Array.ext' he);rw [←this];exact hy
   · intro h;exact List.mem_map.2 ⟨x,h,rfl⟩
 rw [hd];have hc:=fun g (hg:nv.ownBlock=some g)=>World.ownsRow.cells h hg
 rcases h.2 with ⟨rfl,h0⟩|⟨g,cap,cur,rfl,_,hgr,hcap,_⟩
 · have:ns= []:=List.eq_nil_of_length_eq_zero h0;subst this;exact Tryz.slices_Contains_string_empty none 0 x U
 · rcases Nat.eq_zero_or_pos ns.length with h0|h0
   · have:ns= []:=List.eq_nil_of_length_eq_zero h0;subst this;exact Tryz.slices_Contains_string_empty _ cap x U
   · have:=Tryz.slices_Contains_string g 0 ns.length cap ns x U (Nat.le_refl _) (by omega) (fun j hj=>by
      have h1:=hc g rfl j (.string ns[j]) (by rw [List.getElem?_map,List.getElem?_eq_getElem hj];rfl);have e:(⟨g,0,none⟩:Addr).add j=⟨g,j,none⟩:=by cases j<;>simp [Addr.add]
      rw [e] at h1;rw [Nat.zero_add,World.cell?_of_block (w:=W) (hU g rfl),h1];simp [List.getD,List.getElem?_eq_getElem hj])
     rw [List.take_of_length_le (Nat.le_refl _)] at this;exact this
namespace J
def valOn (p:T×List ByteArray) (x:ByteArray):Res V→Res (T×List ByteArray)
 | .error e=> .error e
 | .ok (v,r')=> .ok ((p.1.snoc v,p.2++ [x]),r')
def objOn (val:List UInt8→Res V) (p:T×List ByteArray):Res ByteArray→Res (T×List ByteArray)
 | .error e=> .error e
 | .ok (x,r)=>valOn p x (val r)
theorem objOn_err (val:List UInt8→Res V) (p:T×List ByteArray) (e:Nat×Int):objOn val p (.error e)= .error e:=rfl
theorem objOn_ok (val:List UInt8→Res V) (p:T×List ByteArray) (x:ByteArray) (r:List UInt8):objOn val p (.ok (x,r))=valOn p x (val r):=rfl
theorem valOn_err (p:T×List ByteArray) (x:ByteArray) (e:Nat×Int):valOn p x (.error e)= .error e:=rfl
theorem valOn_ok (p:T×List ByteArray) (x:ByteArray) (v:V) (r:List UInt8):valOn p x (.ok (v,r))= .ok ((p.1.snoc v,p.2++ [x]),r):=rfl
theorem stepO_eq (val:List UInt8→Res V) (p:T×List ByteArray) (l:List UInt8):stepO val p l=objOn val p (name p.2 (skip l)):=by
 unfold stepO;cases name p.2 (skip l) with
 | error e=>rfl
 | ok q=>
   rw [show objOn val p (.ok q)=valOn p q.1 (val q.2) from rfl];simp only;cases val q.2 with
   | error e=>rfl
   | ok u=>rfl
theorem name_err {ns:List ByteArray}{l:List UInt8}{e:Nat×Int}(h:text l= .error e):name ns l= .error e:=by unfold name;rw [h]
theorem name_twice {ns:List ByteArray}{l t r:List UInt8}(h:text l= .ok (t,r)) (hm:t∈ns.map (fun x=>x.data.toList)):name ns l= .error (l.length,6):=by unfold name;rw [h];simp only;rw [if_pos hm]
theorem name_rest {ns:List ByteArray}{l t r:List UInt8}(h:text l= .ok (t,r)) (hm:¬ t∈ns.map (fun x=>x.data.toList)):name ns l=match skip r with
 | 58::l3=> .ok (⟨t.toArray⟩,l3)
 | l3=> .error (l3.length,4):=by unfold name;rw [h];exact if_neg hm
theorem name_colon {ns:List ByteArray}{l t r l3:List UInt8}(h:text l= .ok (t,r)) (hm:¬ t∈ns.map (fun x=>x.data.toList)) (hs:skip r=58::l3):name ns l= .ok (⟨t.toArray⟩,l3):=by
 rw [name_rest h hm,hs];rfl
theorem name_none {ns:List ByteArray}{l t r:List UInt8}(h:text l= .ok (t,r)) (hm:¬ t∈ns.map (fun x=>x.data.toList)) (hs:∀l3,skip r≠58::l3):name ns l= .error ((skip r).length,4):=by
 rw [name_rest h hm];split
 · rename_i l3 e;exact absurd e (hs l3)
 · rfl
end J
section
variable {P:Program}{ops:Array Oper}{Q:Exit→Act→World→Prop}{md:Region.Mode}{S:World→Prop}{k:Nat}
def wpTill (P:Program) (md:Region.Mode) (ops:Array Oper) (Q:Exit→Act→World→Prop) (S:World→Prop) (k:Nat):Nat→Array Bool→Act→World→Prop
 | 0,listed,a,w=>Region.ready md ops listed= []∧Q .normal a w
 | fuel+1,listed,a,w=>
   (Region.ready md ops listed= []→Q .normal a w)∧
   ∀i∈Region.ready md ops listed,wpOp P ops Q i (fun a' w'=>((listed.setIfInBounds i true).getD k true=false→S w')∧wpTill P md ops Q S k fuel (listed.setIfInBounds i true) a' w') a w
theorem wpAny_of_till:∀(fuel:Nat) (listed:Array Bool) (a:Act) (w:World),wpTill P md ops Q S k fuel listed a w→wpAny P md ops Q fuel listed a w
 | 0,_,_,_,h=>h
 | fuel+1,_,_,_,h=>⟨h.1,fun i hi=>wpOp_mono (fun a' w' h'=>wpAny_of_till fuel _ a' w' h'.2) (h.2 i hi)⟩
def chain (md:Region.Mode) (ops:Array Oper) (D:List Nat) (i k:Nat):Bool:=
 D.contains k&&D.all fun j=>j==i||match ops[j]? with
  | some o=>o.after.any fun e=>Region.binds md e&&D.contains e.on
  | none=>false
theorem chain_not {D:List Nat}{i k:Nat}(h:chain md ops D i k=true) {listed:Array Bool}(hD:∀d∈D,listed.getD d false=false) {j:Nat}(hj:j∈Region.ready md ops listed) (hji:j≠i):j ∉ D:=by
 intro hjD;unfold chain at h;rw [Bool.and_eq_true,List.all_eq_true] at h;have h1:=h.2 j hjD;obtain ⟨_,o,ho,hall⟩:=mem_ready.1 hj;rw [ho] at h1;simp only [Bool.or_eq_true,beq_iff_eq,hji,false_or] at h1;obtain ⟨e,he,hb⟩:=Array.any_eq_true'.1 h1;rw [Bool.and_eq_true] at hb;have h2:=hall e he hb.1;rw [hD e.on (by simpa using hb.2)] at h2;cases h2
theorem wpTill_first {i:Nat}{oi:Oper}{v:Value}(hi:ops[i]? =some oi) (hsel:∀(j:Nat) (o:Oper) cs b,ops[j]? =some o→o.op≠ .select cs b)
   (hQ:∀c a w,Q (.panic c) (a.put oi.dst v) w→Q (.panic c) a w) {D:List Nat}(hc:chain md ops D i k=true) (hki:k≠i):
   ∀(fuel:Nat) (listed:Array Bool) (a:Act) (w:World),
     (∀j oj,ops[j]? =some oj→j≠i→listed.getD j true=false→(∀e∈oj.after,Region.binds md e=true→e.on≠i)→oi.apart ops oj=true)→
     (∀d∈D,listed.getD d false=false)→listed.getD k true=false→
     i∈Region.ready md ops listed→YieldsIf P ops S oi v a→S w→
     wpTill P md ops Q S k fuel (listed.setIfInBounds i true) (a.put oi.dst v) w→wpTill P md ops Q S k (fuel+1) listed a w:=by
 intro fuel;induction fuel with
 | zero=>
   intro listed a w _ hD hk hr hy hS H;refine ⟨fun h=>(by rw [h] at hr;cases hr),fun j hj=> ?_⟩;by_cases hji:j=i
   · subst hji;exact hy.wpOp hi hS ⟨fun _=>hS,H⟩
   · have:=ready_mono hj hji;rw [H.1] at this;cases this
 | succ fuel ih=>
   intro listed a w hfree hD hk hr hy hS H;refine ⟨fun h=>(by rw [h] at hr;cases hr),fun j hj=> ?_⟩;by_cases hji:j=i
   · subst hji;exact hy.wpOp hi hS ⟨fun _=>hS,H⟩
   · have hjD:=chain_not hc hD hj hji;have h1:=H.2 j (ready_mono hj hji);obtain ⟨hjun,oj,hoj,hall⟩:=mem_ready.1 hj;have hnot:∀e∈oj.after,Region.binds md e=true→e.on≠i:=fun e he hb heq=>by
      have h1:=hall e he hb;have h0:=(mem_ready.1 hr).1;rw [heq] at h1;rcases Nat.lt_or_ge i listed.size with h'|h'
      · simp [h'] at h0 h1;rw [h0] at h1;cases h1
      · simp [Array.getElem?_eq_none h'] at h1
     have h2:=wpOp_putIf hoj (hfree j oj hoj hji hjun hnot) (fun cs b=>hsel i oi cs b hi) (fun cs b=>hsel j oj cs b hoj) hQ hy h1;have hfree':∀k ok,ops[k]? =some ok→k≠i→(listed.setIfInBounds j true).getD k true=false→
        (∀e∈ok.after,Region.binds md e=true→e.on≠i)→oi.apart ops ok=true:=fun k ok hk hki hun hno=>by
      refine hfree k ok hk hki ?_ hno;by_cases hjk:j=k
      · subst hjk;exact hjun
      · rw [getD_set_ne true hjk] at hun;exact hun
     have hkD:k∈D:=by
      unfold chain at hc;rw [Bool.and_eq_true] at hc;simpa using hc.1
     have hjk:j≠k:=fun e=>by subst e;exact hjD hkD
     have hk':(listed.setIfInBounds j true).getD k true=false:=by rw [getD_set_ne true hjk];exact hk
     have hD':∀d∈D,(listed.setIfInBounds j true).getD d false=false:=fun d hd=>by
      rw [getD_set_ne false (show j≠d from fun e=>by subst e;exact hjD hd)];exact hD d hd
     have hk2:((listed.setIfInBounds i true).setIfInBounds j true).getD k true=false:=by
      rw [Array.setIfInBounds_comm _ _ (Ne.symm hji),getD_set_ne true (Ne.symm hki)];exact hk'
     refine wpOp_mono (fun a' w' h3=>⟨fun _=>h3.2.1 hk2,ih (listed.setIfInBounds j true) a' w' hfree' hD' hk' (ready_mono hr (Ne.symm hji)) h3.1 (h3.2.1 hk2) ?_⟩) h2;rw [Array.setIfInBounds_comm _ _ hji];exact h3.2.2
theorem wpTill_load (i:Nat) (D:List Nat) {oi:Oper}{v:Value}{fuel:Nat}{listed:Array Bool}{a:Act}{w:World}(hi:ops[i]? =some oi)
  (hs:Region.noSelect ops=true) (hf:Region.free md ops listed i=true) (hr:(Region.ready md ops listed).contains i=true)
  (hc:(chain md ops D i k&&(k !=i)&&(D.all fun d=> !listed.getD d false)&& !listed.getD k true)=true)
  (hQ:∀c a w,Q (.panic c) (a.put oi.dst v) w→Q (.panic c) a w) (hy:YieldsIf P ops S oi v a) (hS:S w)
  (h:wpTill P md ops Q S k fuel (listed.setIfInBounds i true) (a.put oi.dst v) w):wpTill P md ops Q S k (fuel+1) listed a w:=by
 simp only [Bool.and_eq_true,bne_iff_ne,ne_eq,List.all_eq_true,Bool.not_eq_true'] at hc;exact wpTill_first hi (Region.noSelect_spec hs) hQ hc.1.1.1 hc.1.1.2 fuel listed a w (Region.free_spec hi hf) hc.1.2 hc.2 (by simpa using hr) hy hS h
theorem wpTill_any (i:Nat) {oi:Oper}{v:Value}{fuel:Nat}{listed:Array Bool}{a:Act}{w:World}(hi:ops[i]? =some oi)
   (hs:Region.noSelect ops=true) (hf:Region.free md ops listed i=true) (hr:(Region.ready md ops listed).contains i=true) (hki:(k !=i)=true)
   (hQ:∀c a w,Q (.panic c) (a.put oi.dst v) w→Q (.panic c) a w) (hy:Yields P ops oi v a) (hS:listed.getD k true=false→S w)
   (h:wpTill P md ops Q S k fuel (listed.setIfInBounds i true) (a.put oi.dst v) w):wpTill P md ops Q S k (fuel+1) listed a w:=by
 have hkn:k≠i:=by simpa using hki
 have hsel:=Region.noSelect_spec hs;have hfree:=Region.free_spec hi hf;have hr':i∈Region.ready md ops listed:=by simpa using hr
 clear hf hr;revert listed a w;induction fuel with
 | zero=>
   intro listed a w hy hS H hfree hr;refine ⟨fun h=>(by rw [h] at hr;cases hr),fun j hj=> ?_⟩;by_cases hji:j=i
   · subst hji;exact hy.wpOp hi ⟨fun hk=>hS (by rw [getD_set_ne true (Ne.symm hkn)] at hk;exact hk),H⟩
   · have:=ready_mono hj hji;rw [H.1] at this;cases this
 | succ fuel ih=>
   intro listed a w hy hS H hfree hr;refine ⟨fun h=>(by rw [h] at hr;cases hr),fun j hj=> ?_⟩;by_cases hji:j=i
   · subst hji;exact hy.wpOp hi ⟨fun hk=>hS (by rw [getD_set_ne true (Ne.symm hkn)] at hk;exact hk),H⟩
   · have h1:=H.2 j (ready_mono hj hji);obtain ⟨hjun,oj,hoj,hall⟩:=mem_ready.1 hj;have hnot:∀e∈oj.after,Region.binds md e=true→e.on≠i:=fun e he hb heq=>by
      have h1:=hall e he hb;have h0:=(mem_ready.1 hr).1;rw [heq] at h1;rcases Nat.lt_or_ge i listed.size with h'|h'
      · simp [h'] at h0 h1;rw [h0] at h1;cases h1
      · simp [Array.getElem?_eq_none h'] at h1
     have h2:=wpOp_put hoj (hfree j oj hoj hji hjun hnot) (fun cs b=>hsel i oi cs b hi) (fun cs b=>hsel j oj cs b hoj) hQ hy h1;have hfree':∀k ok,ops[k]? =some ok→k≠i→(listed.setIfInBounds j true).getD k true=false→
        (∀e∈ok.after,Region.binds md e=true→e.on≠i)→oi.apart ops ok=true:=fun k ok hk hki hun hno=>by
      refine hfree k ok hk hki ?_ hno;by_cases hjk:j=k
      · subst hjk;exact hjun
      · rw [getD_set_ne true hjk] at hun;exact hun
     refine wpOp_mono (fun a' w' h3=> ?_) h2;have hk3:(listed.setIfInBounds j true).getD k true=false→S w':=fun hk=>h3.2.1 (by rw [Array.setIfInBounds_comm _ _ (Ne.symm hji),getD_set_ne true (Ne.symm hkn)];exact hk)
     exact ⟨hk3,ih h3.1 hk3 (by rw [Array.setIfInBounds_comm _ _ hji];exact h3.2.2) hfree' (ready_mono hr (Ne.symm hji))⟩
theorem wpTill_done {listed:Array Bool}{a:Act}{w:World}(hr:Region.ready md ops listed= []) (h:Q .normal a w):∀fuel,wpTill P md ops Q S k fuel listed a w
 | 0=>⟨hr,h⟩
 | _+1=>⟨fun _=>h,by rw [hr];simp⟩
def AllTill (P:Program) (md:Region.Mode) (ops:Array Oper) (Q:Exit→Act→World→Prop) (S:World→Prop) (k:Nat) (fuel:Nat) (listed:Array Bool) (a:Act) (w:World) (rs:List Nat):Prop:=
 ∀i∈rs,wpOp P ops Q i (fun a' w'=>((listed.setIfInBounds i true).getD k true=false→S w')∧wpTill P md ops Q S k fuel (listed.setIfInBounds i true) a' w') a w
theorem AllTill.nil {fuel:Nat}{listed:Array Bool}{a:Act}{w:World}:AllTill P md ops Q S k fuel listed a w []:=fun _ h=>by cases h
theorem AllTill.cons {fuel:Nat}{listed:Array Bool}{a:Act}{w:World}{i:Nat}{o:Oper}{rs:List Nat}(ho:ops[i]? =some o)
   (h:∀K':Act→World→Prop,Shut (∀a w,((listed.setIfInBounds i true).getD k true=false→S w)→wpTill P md ops Q S k fuel (listed.setIfInBounds i true) a w→K' a w)→if Region.wanted o (yielded ops a.tmps)=true then Oper.wp P o a w K' Q else K' (a.put o.dst undef) w)
   (hs:AllTill P md ops Q S k fuel listed a w rs):AllTill P md ops Q S k fuel listed a w (i::rs):=fun j hj=>by
 rcases List.mem_cons.1 hj with rfl|hj
 · exact wpOp_step ho (fun K' hK=>h K' (fun a w hS hW=>hK a w ⟨hS,hW⟩))
 · exact hs j hj
theorem AllTill.consH {fuel:Nat}{listed:Array Bool}{a:Act}{w:World}{i:Nat}{o:Oper}{rs:List Nat}(ho:ops[i]? =some o)
  (h:∀K':Act→World→Prop,Shut (∀a w,((listed.setIfInBounds i true).getD k true=false→S w)→(((listed.setIfInBounds i true).getD k true=false→S w)→wpTill P md ops Q S k fuel (listed.setIfInBounds i true) a w)→K' a w)→if Region.wanted o (yielded ops a.tmps)=true then Oper.wp P o a w K' Q else K' (a.put o.dst undef) w)
  (hs:AllTill P md ops Q S k fuel listed a w rs):AllTill P md ops Q S k fuel listed a w (i::rs):=
 AllTill.cons ho (fun K' hK=>h K' (fun a w hS hW=>hK a w hS (hW hS))) hs
theorem wpTill_ready {rs:List Nat}{fuel:Nat}{listed:Array Bool}{a:Act}{w:World}(hr:Region.ready md ops listed=rs) (hne:rs≠ [])
 (h:AllTill P md ops Q S k fuel listed a w rs):wpTill P md ops Q S k (fuel+1) listed a w:=⟨fun h0=>absurd (hr ▸ h0) hne,hr ▸ h⟩
theorem tillA (i:Nat) {oi:Oper}{v:Value}{fuel:Nat}{listed:Array Bool}{a:Act}{w:World}(hS:listed.getD k true=false→S w) (h:wpTill P md ops Q S k fuel (listed.setIfInBounds i true) (a.put oi.dst v) w)
  (hi:ops[i]? =some oi:=by rfl) (hs:Region.noSelect ops=true:=by kernel_rfl) (hf:Region.free md ops listed i=true:=by kernel_rfl) (hr:(Region.ready md ops listed).contains i=true:=by kernel_rfl) (hki:(k !=i)=true:=by kernel_rfl)
  (hQ:∀c a w,Q (.panic c) (a.put oi.dst v) w→Q (.panic c) a w:=by exact fun _ _ _ h=>h) (hw:Region.wanted oi (yielded ops a.tmps)=true:=by rfl) (hy:∀w,(execOp a.eval oi).run P w= .ok (.value v) w:=by intro w;go_simp;try with_reducible rfl):wpTill P md ops Q S k (fuel+1) listed a w:=
 wpTill_any i hi hs hf hr hki hQ (Or.inl ⟨hw,hy⟩) hS h
theorem tillL (i:Nat) (D:List Nat) {oi:Oper}{v:Value}{fuel:Nat}{listed:Array Bool}{a:Act}{w:World}(hS:S w) (hy:∀w,S w→(execOp a.eval oi).run P w= .ok (.value v) w) (h:wpTill P md ops Q S k fuel (listed.setIfInBounds i true) (a.put oi.dst v) w)
  (hi:ops[i]? =some oi:=by rfl) (hs:Region.noSelect ops=true:=by kernel_rfl) (hf:Region.free md ops listed i=true:=by kernel_rfl) (hr:(Region.ready md ops listed).contains i=true:=by kernel_rfl) (hc:(chain md ops D i k&&(k !=i)&&(D.all fun d=> !listed.getD d false)&& !listed.getD k true)=true:=by kernel_rfl)
  (hQ:∀c a w,Q (.panic c) (a.put oi.dst v) w→Q (.panic c) a w:=by exact fun _ _ _ h=>h) (hw:Region.wanted oi (yielded ops a.tmps)=true:=by rfl):wpTill P md ops Q S k (fuel+1) listed a w:=
 wpTill_load i D hi hs hf hr hc hQ (Or.inl ⟨hw,hy⟩) hS h
theorem tillC (i:Nat) (rs:List Nat) {o:Oper}{fuel:Nat}{listed:Array Bool}{a:Act}{w:World}
  (h:∀K':Act→World→Prop,Shut (∀a w,((listed.setIfInBounds i true).getD k true=false→S w)→wpTill P md ops Q S k fuel (listed.setIfInBounds i true) a w→K' a w)→if Region.wanted o (yielded ops a.tmps)=true then Oper.wp P o a w K' Q else K' (a.put o.dst undef) w)
  (hs:AllTill P md ops Q S k fuel listed a w rs) (ho:ops[i]? =some o:=by rfl) (hr:Region.ready md ops listed=i::rs:=by kernel_rfl):wpTill P md ops Q S k (fuel+1) listed a w:=
 wpTill_ready hr (by simp) (AllTill.cons ho h hs)
theorem till1 (i:Nat) {o:Oper}{fuel:Nat}{listed:Array Bool}{a:Act}{w:World}
  (h:∀K':Act→World→Prop,Shut (∀a w,((listed.setIfInBounds i true).getD k true=false→S w)→wpTill P md ops Q S k fuel (listed.setIfInBounds i true) a w→K' a w)→if Region.wanted o (yielded ops a.tmps)=true then Oper.wp P o a w K' Q else K' (a.put o.dst undef) w)
  (ho:ops[i]? =some o:=by rfl) (hr:Region.ready md ops listed= [i]:=by kernel_rfl):wpTill P md ops Q S k (fuel+1) listed a w:=
 tillC i [] h AllTill.nil ho hr
theorem tillD (i:Nat) (rs:List Nat) {o:Oper}{fuel:Nat}{listed:Array Bool}{a:Act}{w:World}
  (h:∀K':Act→World→Prop,Shut (∀a w,((listed.setIfInBounds i true).getD k true=false→S w)→(((listed.setIfInBounds i true).getD k true=false→S w)→wpTill P md ops Q S k fuel (listed.setIfInBounds i true) a w)→K' a w)→if Region.wanted o (yielded ops a.tmps)=true then Oper.wp P o a w K' Q else K' (a.put o.dst undef) w)
  (hs:AllTill P md ops Q S k fuel listed a w rs) (ho:ops[i]? =some o:=by rfl) (hr:Region.ready md ops listed=i::rs:=by kernel_rfl):wpTill P md ops Q S k (fuel+1) listed a w:=
 wpTill_ready hr (by simp) (AllTill.consH ho h hs)
theorem tillD1 (i:Nat) {o:Oper}{fuel:Nat}{listed:Array Bool}{a:Act}{w:World}
  (h:∀K':Act→World→Prop,Shut (∀a w,((listed.setIfInBounds i true).getD k true=false→S w)→(((listed.setIfInBounds i true).getD k true=false→S w)→wpTill P md ops Q S k fuel (listed.setIfInBounds i true) a w)→K' a w)→if Region.wanted o (yielded ops a.tmps)=true then Oper.wp P o a w K' Q else K' (a.put o.dst undef) w)
  (ho:ops[i]? =some o:=by rfl) (hr:Region.ready md ops listed= [i]:=by kernel_rfl):wpTill P md ops Q S k (fuel+1) listed a w:=
 tillD i [] h AllTill.nil ho hr
theorem wp_region_till {id:Nat}{a:Act}{w:World}(S:World→Prop) (k:Nat) (hm:P.follows .mixedOrders=true)
  (h:wpTill P .any ops Q S k ops.size (Array.replicate ops.size false) a w.drew):(Code.region id ops true).wp P Q a w:=
 wp_region_any hm (wpAny_of_till _ _ _ _ h)
end
end Go.Proofs.YtohkomndapngjaaGreatDoor

