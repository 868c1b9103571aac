/- Read: what a request asks, or the answer that refuses it. -/
import Derived.Test.YtohkomndapngjaaGreatDoorRC30
import Derived.Test.YtohkomndapngjaaGreatDoorRC8
namespace Go.Proofs.YtohkomndapngjaaGreatDoor
set_option maxRecDepth 100000
set_option maxHeartbeats 16000000
open Go.RowKit
open Go.Lib (hid)
theorem read_any (m p k b bb:ByteArray) (get post:Bool) (D:Int→Int→Int→Prop) (w:World) (hg:(m.data.toList== [71,69,84])=get) (hp:(m.data.toList== [80,79,83,84])=post) (hps:p.size≤100000) (hbb:bodyOf b=bb) (hE:EnvX w)
   (hev:R.even (J.parse bb.data.toList).1) (hns:∀a∈(J.parse bb.data.toList).1.ns,a.size≤1000000000000)
   (hbad:(J.parse bb.data.toList).2.2≠0→Prints (J.pairsV [(J.nError,(J.parse bb.data.toList).2.2),(J.nAt,(J.parse bb.data.toList).2.1)]))
   (hdep:(∃f,R.find p=some f∧f.post=1)→post=true→∀w',Below w.heap.size w w'→Calls Tryz.prog 17 #[.string b] w' fun e W=> ∃q1 q2 r,D q1 q2 r∧r≠0∧Prints (J.pairsV [(J.nError,r),(J.nLine,q1),(J.nColumn,q2)])∧e= .returned (.tuple #[.agg model0,.agg #[.int .i64 q1,.int .i64 q2],.int .i64 r])∧Below w'.heap.size w' W):
   Calls Tryz.prog 7 #[.agg #[.string m,.string p,.string k,.string b]] w (ReadOf D (R.read get post p (J.parse bb.data.toList)) w):=by
 obtain ⟨X,hX⟩:∃X,w.heap.size=X:=⟨_,rfl⟩;obtain ⟨w1,hw1⟩:∃w1,((w.alloc (.cells #[.string m,.string p,.string k,.string b] 45)).alloc (.cells #[.int .u8 0,.string ⟨#[]⟩,.string ⟨#[]⟩,.slice none 0 0,.slice none 0 0,.slice none 0 0,.string ⟨#[]⟩,.string ⟨#[]⟩,.string ⟨#[]⟩,.int .i64 0,.int .i64 0,.int .i64 0,.slice none 0 0,.int .u8 0,.string ⟨#[]⟩,.int .i64 0] 39)).alloc (.cells #[.int .i64 0,.string ⟨#[]⟩] 41)=w1:=⟨_,rfl⟩;obtain ⟨Z,hZ⟩:∃Z,X+1=Z:=⟨_,rfl⟩;obtain ⟨Y,hY⟩:∃Y,Z+1=Y:=⟨_,rfl⟩;have HR1:Hid (RB w X Z Y m p k b w1):=by
   show RB _ _ _ _ _ _ _ _ _;subst hY hZ;have s1:(w.alloc (.cells #[.string m,.string p,.string k,.string b] 45)).heap.size=X+1:=by rw [←hX];simp
   have s2:((w.alloc (.cells #[.string m,.string p,.string k,.string b] 45)).alloc (.cells #[.int .u8 0,.string ⟨#[]⟩,.string ⟨#[]⟩,.slice none 0 0,.slice none 0 0,.slice none 0 0,.string ⟨#[]⟩,.string ⟨#[]⟩,.string ⟨#[]⟩,.int .i64 0,.int .i64 0,.int .i64 0,.slice none 0 0,.int .u8 0,.string ⟨#[]⟩,.int .i64 0] 39)).heap.size=X+1+1:=by rw [←hX];simp
   refine ⟨?_,?_,?_,?_⟩
   · rw [←hw1,Lib.alloc_old _ _ _ (by rw [s2];omega),Lib.alloc_old _ _ _ (by rw [s1];omega),←hX];exact heap_alloc_new w _
   · rw [←hw1,Lib.alloc_old _ _ _ (by rw [s2];omega),←s1];exact heap_alloc_new _ _
   · rw [←hw1,←s2];exact heap_alloc_new _ _
   · rw [←hw1];exact (((Below.refl _ w).alloc (Nat.le_refl _) _).alloc (by simp) _).alloc (by simp<;>omega) _
 have HZY:Hid (Z≠Y):=by show _≠_;omega
 have HZW:Hid (w.heap.size≤Z):=by show _≤_;omega
 have HYW:Hid (w.heap.size≤Y):=by show _≤_;omega
 obtain ⟨yv,pa,er,hy⟩:∃yv pa er,J.parse bb.data.toList=(yv,pa,er):=⟨_,_,_,rfl⟩;obtain ⟨x,hx⟩:∃x,R.read get post p (yv,pa,er)=x:=⟨_,rfl⟩;rw [hy] at hev hns hbad ⊢;rw [hx];dsimp only at hev hns hbad;have HX:=hid hx;have HYP:=hid hy;have HE:=hid hE;have HEV:=hid hev;have HNS:=hid hns;have HBAD:=hid hbad;have HDEP:=hid hdep;have HBB:=hid hbb;obtain ⟨fr,hfr⟩:∃r,R.find p=r:=⟨_,rfl⟩;have cF:=find_any p hps w1 (HE.out.under HR1.out.bl).r;have q1:(m.toList== [71,69,84])=get:=by rw [Lib.toList_data];exact hg
 have q2:(m.toList== [80,79,83,84])=post:=by rw [Lib.toList_data];exact hp
 have HGP:Hid (get=true→post=false):=fun h=>by
   rw [←hp];have:m.data.toList= [71,69,84]:=by simpa [h] using hg
   rw [this];rfl
 have HW1:=hid hw1;have HXX:=hid hX;have HZZ:=hid hZ;have HYY:=hid hY;rw [hfr] at cF;have HFR:=hid hfr;have r0:w1.cell? ⟨X,0,none⟩=some (.string m):=rowCell HR1.out.rq 0;have r1:w1.cell? ⟨X,1,none⟩=some (.string p):=rowCell HR1.out.rq 1;clear hX hw1 hZ hY hy hx hE hev hns hbad hdep hbb hfr hg hp hps;go_enter Tryz.func7,Tryz.ntmps7;go_upto_region 1 with fail;rw [HW1.out,HXX.out,HZZ.out,HYY.out];clear HW1 HZZ HYY;go_wp2_with fail;refine cF.mono ?_;rintro e w2 ⟨rfl,hb⟩;have HR2:=hid (HR1.out.after hb);clear hb cF r0 r1;cases fr with
 | none=>
   have hxx:=HX.out.symm.trans (R.read_none HFR.out);have HXV:=hid hxx;clear hxx;go_upto_region 2 with fail;obtain ⟨w3,hw3⟩:∃w3,w2.alloc (.cells #[.int .u8 0,.int .u8 0] 73)=w3:=⟨_,rfl⟩;have HR3:Hid (RB w X Z Y m p k b w3):=by show RB _ _ _ _ _ _ _ _ _;rw [←hw3];exact HR2.out.after ((Below.refl _ w2).alloc (Nat.le_refl _) _)
   rw [hw3];clear hw3;go_wp2_with fail;refine (refuse_any 404 301 (prints_err 301 (by decide)) w3 (HE.out.under HR3.out.bl).p).mono ?_;rintro e w9 ⟨rfl,hb⟩;have HR9:=hid (HR3.out.after hb);clear hb;obtain ⟨tx,htx⟩:∃tx,textOf (J.errV 301)=tx:=⟨_,rfl⟩;rw [htx];have HTX:=hid htx;clear htx;have HYR:Hid ((w9.setRow Z #[.int .u8 0,.string ⟨#[]⟩,.string ⟨#[]⟩,.slice none 0 0,.slice none 0 0,.slice none 0 0,.string ⟨#[]⟩,.string ⟨#[]⟩,.string ⟨#[]⟩,.int .i64 0,.int .i64 0,.int .i64 0,.slice none 0 0,.int .u8 0,.string ⟨#[]⟩,.int .i64 0]).heap[Y]? =some (.cells #[.int .i64 0,.string ⟨#[]⟩] 41 (0,0))):=(setRow_other _ _ _ _ HZY.out.symm).trans HR9.out.rs;go_wp2_with (first
     | (refine wpList_store_row rfl 39 (.tmp 2) (.tmp 28) rfl Z #[.int .u8 0,.string ⟨#[]⟩,.string ⟨#[]⟩,.slice none 0 0,.slice none 0 0,.slice none 0 0,.string ⟨#[]⟩,.string ⟨#[]⟩,.string ⟨#[]⟩,.int .i64 0,.int .i64 0,.int .i64 0,.slice none 0 0,.int .u8 0,.string ⟨#[]⟩,.int .i64 0] rfl rfl 39 _ HR9.out.az infoAsk rfl (by kernel_rfl) ?_)
     | (refine wpList_store_row rfl 41 (.tmp 3) (.tmp 29) rfl Y #[.int .i64 404,.string tx] rfl rfl 41 _ HYR.out infoResp rfl (by kernel_rfl) ?_)
     | fail)
   refine bodyPost_ret (v:= .tuple #[.agg #[.int .u8 0,.string ⟨#[]⟩,.string ⟨#[]⟩,.slice none 0 0,.slice none 0 0,.slice none 0 0,.string ⟨#[]⟩,.string ⟨#[]⟩,.string ⟨#[]⟩,.int .i64 0,.int .i64 0,.int .i64 0,.slice none 0 0,.int .u8 0,.string ⟨#[]⟩,.int .i64 0],.agg #[.int .i64 404,.string tx],.bool false]) (results_cct rfl _ _ Z Y 39 41 #[.int .u8 0,.string ⟨#[]⟩,.string ⟨#[]⟩,.slice none 0 0,.slice none 0 0,.slice none 0 0,.string ⟨#[]⟩,.string ⟨#[]⟩,.string ⟨#[]⟩,.int .i64 0,.int .i64 0,.int .i64 0,.slice none 0 0,.int .u8 0,.string ⟨#[]⟩,.int .i64 0] #[.int .i64 404,.string tx] (0,0) (0,0) _ _ _ rfl ((setRow_other _ _ _ _ HZY.out).trans (setRow_heap _ _ _ _ _ _ HR9.out.az)) rfl (setRow_heap _ _ _ _ _ _ HYR.out) rfl Tryz.underlying39 rfl infoAsk Tryz.underlying41 rfl infoResp) rfl ?_;rw [HXV.out];refine ⟨below_setRow (below_setRow HR9.out.bl HZW.out _) HYW.out _,?_⟩;rw [←HTX.out]
 | some f=>
   obtain ⟨gi,hgi⟩:∃gi:Int,(f.get:Int)=gi:=⟨_,rfl⟩;obtain ⟨pi,hpi⟩:∃pi:Int,(f.post:Int)=pi:=⟨_,rfl⟩;obtain ⟨id,hid'⟩:∃id,f.id=id:=⟨_,rfl⟩;obtain ⟨nm,hnm⟩:∃nm,f.name=nm:=⟨_,rfl⟩;simp only [hgi,hpi,hid',hnm];have HGI:=hid hgi;have HPI:=hid hpi;have HID:=hid hid';have HNM:=hid hnm;clear hgi hpi hid' hnm;go_upto_region 2 with fail;obtain ⟨Pb,hPb⟩:∃P,w2.heap.size=P:=⟨_,rfl⟩;obtain ⟨w3,hw3⟩:∃w3,w2.alloc (.cells #[.int .u8 gi,.int .u8 pi] 73)=w3:=⟨_,rfl⟩;have HR3:Hid (RB w X Z Y m p k b w3):=by show RB _ _ _ _ _ _ _ _ _;rw [←hw3];exact HR2.out.after ((Below.refl _ w2).alloc (Nat.le_refl _) _)
   have HP3:Hid (w3.heap[Pb]? =some (.cells #[.int .u8 gi,.int .u8 pi] 73 (0,0))):=by show _=_;rw [←hw3,←hPb];exact heap_alloc_new w2 _
   rw [hw3,hPb];have HPX:Hid (w.heap.size≤Pb):=by have:=HR2.out.bl.size;show _≤_;omega
   have r0:w3.cell? ⟨X,0,none⟩=some (.string m):=rowCell HR3.out.rq 0;have p0:w3.cell? ⟨Pb,0,none⟩=some (.int .u8 gi):=rowCell HP3.out 0;have p1:w3.cell? ⟨Pb,1,none⟩=some (.int .u8 pi):=rowCell HP3.out 1;clear hw3 hPb;cases get with
   | true=>
     by_cases hgz:0<f.get
     · have g0:decide ((0:Int)<gi)=true:=decide_eq_true (by have:=HGI.out;omega);have HXV:=hid (HX.out.symm.trans (R.read_look HFR.out rfl hgz));clear hgz;have HYR:Hid ((w3.setRow Z #[.int .u8 0,.string ⟨#[]⟩,.string ⟨#[]⟩,.slice none 0 0,.slice none 0 0,.slice none 0 0,.string ⟨#[]⟩,.string ⟨#[]⟩,.string ⟨#[]⟩,.int .i64 0,.int .i64 0,.int .i64 0,.slice none 0 0,.int .u8 gi,.string nm,.int .i64 id]).heap[Y]? =some (.cells #[.int .i64 0,.string ⟨#[]⟩] 41 (0,0))):=(setRow_other _ _ _ _ HZY.out.symm).trans HR3.out.rs;go_wp2_with (first
         | (refine wpList_store_row rfl 39 (.tmp 2) (.tmp 43) rfl Z #[.int .u8 0,.string ⟨#[]⟩,.string ⟨#[]⟩,.slice none 0 0,.slice none 0 0,.slice none 0 0,.string ⟨#[]⟩,.string ⟨#[]⟩,.string ⟨#[]⟩,.int .i64 0,.int .i64 0,.int .i64 0,.slice none 0 0,.int .u8 gi,.string nm,.int .i64 id] rfl rfl 39 _ HR3.out.az infoAsk rfl (by kernel_rfl) ?_)
         | (refine wpList_store_row rfl 41 (.tmp 3) (.tmp 44) rfl Y #[.int .i64 0,.string ⟨#[]⟩] rfl rfl 41 _ HYR.out infoResp rfl (by kernel_rfl) ?_)
         | fail)
       refine bodyPost_ret (v:= .tuple #[.agg #[.int .u8 0,.string ⟨#[]⟩,.string ⟨#[]⟩,.slice none 0 0,.slice none 0 0,.slice none 0 0,.string ⟨#[]⟩,.string ⟨#[]⟩,.string ⟨#[]⟩,.int .i64 0,.int .i64 0,.int .i64 0,.slice none 0 0,.int .u8 gi,.string nm,.int .i64 id],.agg #[.int .i64 0,.string ⟨#[]⟩],.bool true]) (results_cct rfl _ _ Z Y 39 41 #[.int .u8 0,.string ⟨#[]⟩,.string ⟨#[]⟩,.slice none 0 0,.slice none 0 0,.slice none 0 0,.string ⟨#[]⟩,.string ⟨#[]⟩,.string ⟨#[]⟩,.int .i64 0,.int .i64 0,.int .i64 0,.slice none 0 0,.int .u8 gi,.string nm,.int .i64 id] #[.int .i64 0,.string ⟨#[]⟩] (0,0) (0,0) _ _ _ rfl ((setRow_other _ _ _ _ HZY.out).trans (setRow_heap _ _ _ _ _ _ HR3.out.az)) rfl (setRow_heap _ _ _ _ _ _ HYR.out) rfl Tryz.underlying39 rfl infoAsk Tryz.underlying41 rfl infoResp) rfl ?_;rw [HXV.out];refine ⟨below_setRow (below_setRow HR3.out.bl HZW.out _) HYW.out _,?_⟩;show Ending.returned _=Ending.returned _;rw [HGI.out,HNM.out,HID.out]
     · have g0:decide ((0:Int)<gi)=false:=decide_eq_false (by have:=HGI.out;omega);have hpf:=HGP.out rfl;subst hpf;have HXV:=hid (HX.out.symm.trans (R.read_meth HFR.out (fun h=>hgz h.2) (Or.inl rfl)));clear hgz;go_wp2_with fail;refine (refuse_any 405 300 (prints_err 300 (by decide)) w3 (HE.out.under HR3.out.bl).p).mono ?_;rintro e w9 ⟨rfl,hb⟩;have HR9:=hid (HR3.out.after hb);clear hb;obtain ⟨tx,htx⟩:∃tx,textOf (J.errV 300)=tx:=⟨_,rfl⟩;rw [htx];have HTX:=hid htx;clear htx;have HYR:Hid ((w9.setRow Z #[.int .u8 0,.string ⟨#[]⟩,.string ⟨#[]⟩,.slice none 0 0,.slice none 0 0,.slice none 0 0,.string ⟨#[]⟩,.string ⟨#[]⟩,.string ⟨#[]⟩,.int .i64 0,.int .i64 0,.int .i64 0,.slice none 0 0,.int .u8 0,.string ⟨#[]⟩,.int .i64 0]).heap[Y]? =some (.cells #[.int .i64 0,.string ⟨#[]⟩] 41 (0,0))):=(setRow_other _ _ _ _ HZY.out.symm).trans HR9.out.rs;go_wp2_with (first
         | (refine wpList_store_row rfl 39 (.tmp 2) (.tmp 54) rfl Z #[.int .u8 0,.string ⟨#[]⟩,.string ⟨#[]⟩,.slice none 0 0,.slice none 0 0,.slice none 0 0,.string ⟨#[]⟩,.string ⟨#[]⟩,.string ⟨#[]⟩,.int .i64 0,.int .i64 0,.int .i64 0,.slice none 0 0,.int .u8 0,.string ⟨#[]⟩,.int .i64 0] rfl rfl 39 _ HR9.out.az infoAsk rfl (by kernel_rfl) ?_)
         | (refine wpList_store_row rfl 41 (.tmp 3) (.tmp 55) rfl Y #[.int .i64 405,.string tx] rfl rfl 41 _ HYR.out infoResp rfl (by kernel_rfl) ?_)
         | fail)
       refine bodyPost_ret (v:= .tuple #[.agg #[.int .u8 0,.string ⟨#[]⟩,.string ⟨#[]⟩,.slice none 0 0,.slice none 0 0,.slice none 0 0,.string ⟨#[]⟩,.string ⟨#[]⟩,.string ⟨#[]⟩,.int .i64 0,.int .i64 0,.int .i64 0,.slice none 0 0,.int .u8 0,.string ⟨#[]⟩,.int .i64 0],.agg #[.int .i64 405,.string tx],.bool false]) (results_cct rfl _ _ Z Y 39 41 #[.int .u8 0,.string ⟨#[]⟩,.string ⟨#[]⟩,.slice none 0 0,.slice none 0 0,.slice none 0 0,.string ⟨#[]⟩,.string ⟨#[]⟩,.string ⟨#[]⟩,.int .i64 0,.int .i64 0,.int .i64 0,.slice none 0 0,.int .u8 0,.string ⟨#[]⟩,.int .i64 0] #[.int .i64 405,.string tx] (0,0) (0,0) _ _ _ rfl ((setRow_other _ _ _ _ HZY.out).trans (setRow_heap _ _ _ _ _ _ HR9.out.az)) rfl (setRow_heap _ _ _ _ _ _ HYR.out) rfl Tryz.underlying39 rfl infoAsk Tryz.underlying41 rfl infoResp) rfl ?_;rw [HXV.out];refine ⟨below_setRow (below_setRow HR9.out.bl HZW.out _) HYW.out _,?_⟩;rw [←HTX.out]
   | false=>
     cases post with
     | false=>
       have HXV:=hid (HX.out.symm.trans (R.read_meth HFR.out (fun h=>by cases h.1) (Or.inl rfl)));go_wp2_with fail;refine (refuse_any 405 300 (prints_err 300 (by decide)) w3 (HE.out.under HR3.out.bl).p).mono ?_;rintro e w9 ⟨rfl,hb⟩;have HR9:=hid (HR3.out.after hb);clear hb;obtain ⟨tx,htx⟩:∃tx,textOf (J.errV 300)=tx:=⟨_,rfl⟩;rw [htx];have HTX:=hid htx;clear htx;have HYR:Hid ((w9.setRow Z #[.int .u8 0,.string ⟨#[]⟩,.string ⟨#[]⟩,.slice none 0 0,.slice none 0 0,.slice none 0 0,.string ⟨#[]⟩,.string ⟨#[]⟩,.string ⟨#[]⟩,.int .i64 0,.int .i64 0,.int .i64 0,.slice none 0 0,.int .u8 0,.string ⟨#[]⟩,.int .i64 0]).heap[Y]? =some (.cells #[.int .i64 0,.string ⟨#[]⟩] 41 (0,0))):=(setRow_other _ _ _ _ HZY.out.symm).trans HR9.out.rs;go_wp2_with (first
         | (refine wpList_store_row rfl 39 (.tmp 2) (.tmp 54) rfl Z #[.int .u8 0,.string ⟨#[]⟩,.string ⟨#[]⟩,.slice none 0 0,.slice none 0 0,.slice none 0 0,.string ⟨#[]⟩,.string ⟨#[]⟩,.string ⟨#[]⟩,.int .i64 0,.int .i64 0,.int .i64 0,.slice none 0 0,.int .u8 0,.string ⟨#[]⟩,.int .i64 0] rfl rfl 39 _ HR9.out.az infoAsk rfl (by kernel_rfl) ?_)
         | (refine wpList_store_row rfl 41 (.tmp 3) (.tmp 55) rfl Y #[.int .i64 405,.string tx] rfl rfl 41 _ HYR.out infoResp rfl (by kernel_rfl) ?_)
         | fail)
       refine bodyPost_ret (v:= .tuple #[.agg #[.int .u8 0,.string ⟨#[]⟩,.string ⟨#[]⟩,.slice none 0 0,.slice none 0 0,.slice none 0 0,.string ⟨#[]⟩,.string ⟨#[]⟩,.string ⟨#[]⟩,.int .i64 0,.int .i64 0,.int .i64 0,.slice none 0 0,.int .u8 0,.string ⟨#[]⟩,.int .i64 0],.agg #[.int .i64 405,.string tx],.bool false]) (results_cct rfl _ _ Z Y 39 41 #[.int .u8 0,.string ⟨#[]⟩,.string ⟨#[]⟩,.slice none 0 0,.slice none 0 0,.slice none 0 0,.string ⟨#[]⟩,.string ⟨#[]⟩,.string ⟨#[]⟩,.int .i64 0,.int .i64 0,.int .i64 0,.slice none 0 0,.int .u8 0,.string ⟨#[]⟩,.int .i64 0] #[.int .i64 405,.string tx] (0,0) (0,0) _ _ _ rfl ((setRow_other _ _ _ _ HZY.out).trans (setRow_heap _ _ _ _ _ _ HR9.out.az)) rfl (setRow_heap _ _ _ _ _ _ HYR.out) rfl Tryz.underlying39 rfl infoAsk Tryz.underlying41 rfl infoResp) rfl ?_;rw [HXV.out];refine ⟨below_setRow (below_setRow HR9.out.bl HZW.out _) HYW.out _,?_⟩;rw [←HTX.out]
     | true=>
       by_cases hz:f.post=0
       · have g0:(pi==0)=true:=by rw [←HPI.out,hz];rfl
         have HXV:=hid (HX.out.symm.trans (R.read_meth HFR.out (fun h=>by cases h.1) (Or.inr hz)));clear hz;go_wp2_with fail;refine (refuse_any 405 300 (prints_err 300 (by decide)) w3 (HE.out.under HR3.out.bl).p).mono ?_;rintro e w9 ⟨rfl,hb⟩;have HR9:=hid (HR3.out.after hb);clear hb;obtain ⟨tx,htx⟩:∃tx,textOf (J.errV 300)=tx:=⟨_,rfl⟩;rw [htx];have HTX:=hid htx;clear htx;have HYR:Hid ((w9.setRow Z #[.int .u8 0,.string ⟨#[]⟩,.string ⟨#[]⟩,.slice none 0 0,.slice none 0 0,.slice none 0 0,.string ⟨#[]⟩,.string ⟨#[]⟩,.string ⟨#[]⟩,.int .i64 0,.int .i64 0,.int .i64 0,.slice none 0 0,.int .u8 0,.string ⟨#[]⟩,.int .i64 0]).heap[Y]? =some (.cells #[.int .i64 0,.string ⟨#[]⟩] 41 (0,0))):=(setRow_other _ _ _ _ HZY.out.symm).trans HR9.out.rs;go_wp2_with (first
           | (refine wpList_store_row rfl 39 (.tmp 2) (.tmp 54) rfl Z #[.int .u8 0,.string ⟨#[]⟩,.string ⟨#[]⟩,.slice none 0 0,.slice none 0 0,.slice none 0 0,.string ⟨#[]⟩,.string ⟨#[]⟩,.string ⟨#[]⟩,.int .i64 0,.int .i64 0,.int .i64 0,.slice none 0 0,.int .u8 0,.string ⟨#[]⟩,.int .i64 0] rfl rfl 39 _ HR9.out.az infoAsk rfl (by kernel_rfl) ?_)
           | (refine wpList_store_row rfl 41 (.tmp 3) (.tmp 55) rfl Y #[.int .i64 405,.string tx] rfl rfl 41 _ HYR.out infoResp rfl (by kernel_rfl) ?_)
           | fail)
         refine bodyPost_ret (v:= .tuple #[.agg #[.int .u8 0,.string ⟨#[]⟩,.string ⟨#[]⟩,.slice none 0 0,.slice none 0 0,.slice none 0 0,.string ⟨#[]⟩,.string ⟨#[]⟩,.string ⟨#[]⟩,.int .i64 0,.int .i64 0,.int .i64 0,.slice none 0 0,.int .u8 0,.string ⟨#[]⟩,.int .i64 0],.agg #[.int .i64 405,.string tx],.bool false]) (results_cct rfl _ _ Z Y 39 41 #[.int .u8 0,.string ⟨#[]⟩,.string ⟨#[]⟩,.slice none 0 0,.slice none 0 0,.slice none 0 0,.string ⟨#[]⟩,.string ⟨#[]⟩,.string ⟨#[]⟩,.int .i64 0,.int .i64 0,.int .i64 0,.slice none 0 0,.int .u8 0,.string ⟨#[]⟩,.int .i64 0] #[.int .i64 405,.string tx] (0,0) (0,0) _ _ _ rfl ((setRow_other _ _ _ _ HZY.out).trans (setRow_heap _ _ _ _ _ _ HR9.out.az)) rfl (setRow_heap _ _ _ _ _ _ HYR.out) rfl Tryz.underlying39 rfl infoAsk Tryz.underlying41 rfl infoResp) rfl ?_;rw [HXV.out];refine ⟨below_setRow (below_setRow HR9.out.bl HZW.out _) HYW.out _,?_⟩;rw [←HTX.out]
       · have g0:(pi==0)=false:=by rw [beq_eq_false_iff_ne,←HPI.out];omega
         go_upto_region 9 with fail;obtain ⟨A,hA⟩:∃A,w3.heap.size=A:=⟨_,rfl⟩;obtain ⟨w4,hw4⟩:∃w4,w3.alloc (.cells #[.int .u8 pi,.string ⟨#[]⟩,.string ⟨#[]⟩,.slice none 0 0,.slice none 0 0,.slice none 0 0,.string ⟨#[]⟩,.string ⟨#[]⟩,.string ⟨#[]⟩,.int .i64 id,.int .i64 0,.int .i64 0,.slice none 0 0,.int .u8 0,.string ⟨#[]⟩,.int .i64 0] 39)=w4:=⟨_,rfl⟩;have hb4:Below w3.heap.size w3 w4:=by rw [←hw4];exact (Below.refl _ w3).alloc (Nat.le_refl _) _
         have HR4:=hid (HR3.out.after hb4);have HA4:Hid (w4.heap[A]? =some (.cells #[.int .u8 pi,.string ⟨#[]⟩,.string ⟨#[]⟩,.slice none 0 0,.slice none 0 0,.slice none 0 0,.string ⟨#[]⟩,.string ⟨#[]⟩,.string ⟨#[]⟩,.int .i64 id,.int .i64 0,.int .i64 0,.slice none 0 0,.int .u8 0,.string ⟨#[]⟩,.int .i64 0] 39 (0,0))):=by show _=_;rw [←hw4,←hA];exact heap_alloc_new w3 _
         have HP4:=hid ((hb4.block Pb (Go.lt_of_block HP3.out)).trans HP3.out);have HAW:Hid (w.heap.size≤A∧X≠A∧Z≠A∧Y≠A):=by
           have h1:=HR3.out.bl.size;have h2:=Go.lt_of_block HR3.out.rq;have h3:=Go.lt_of_block HR3.out.az;have h4:=Go.lt_of_block HR3.out.rs;show _∧_∧_∧_;refine ⟨by omega,by omega,by omega,by omega⟩
         rw [hw4,hA];clear r0 p0 p1;have r3:w4.cell? ⟨X,3,none⟩=some (.string b):=rowCell HR4.out.rq 3;have p1:w4.cell? ⟨Pb,1,none⟩=some (.int .u8 pi):=rowCell HP4.out 1;clear hw4 hA hb4;by_cases h1:f.post=1
         · have g1:(pi==1)=true:=by rw [←HPI.out,h1];rfl
           have HXV:=hid (HX.out.symm.trans (R.read_dep HFR.out rfl rfl h1));have cM:=HDEP.out ⟨f,HFR.out,h1⟩ rfl w4 HR4.out.bl;clear hz h1;go_wp2_with fail;refine cM.mono ?_;rintro e w5 ⟨l1,l2,er',hD,hne,hpr,rfl,hb⟩;have HDD:=hid hD;have HPR:=hid hpr;have HR5:=hid (HR4.out.after hb);have g2:(er' !=0)=true:=by simpa using hne
           unfold model0;clear hb cM r3 p1 hD hne hpr;go_upto_region 12 with fail;obtain ⟨Q,hQ⟩:∃Q,w5.heap.size+1=Q:=⟨_,rfl⟩;obtain ⟨w6,hw6⟩:∃w6,(w5.alloc (.cells #[.string ⟨#[]⟩,.string ⟨#[]⟩,.slice none 0 0,.slice none 0 0,.slice none 0 0] 35)).alloc (.cells #[.int .i64 l1,.int .i64 l2] 78)=w6:=⟨_,rfl⟩;have hb6:Below w5.heap.size w5 w6.drew:=by rw [←hw6];exact (((Below.refl _ w5).alloc (Nat.le_refl _) _).alloc (by simp) _).drew
           have HQ6:Hid (w6.drew.heap[Q]? =some (.cells #[.int .i64 l1,.int .i64 l2] 78 (0,0))):=by
             show w6.heap[Q]? =_;have:=heap_alloc_new (w5.alloc (.cells #[.string ⟨#[]⟩,.string ⟨#[]⟩,.slice none 0 0,.slice none 0 0,.slice none 0 0] 35)) (.cells #[.int .i64 l1,.int .i64 l2] 78);rw [←hw6,←hQ];simpa using this
           have HR6:=hid (HR5.out.after hb6);rw [hw6,hQ];clear hw6 hQ hb6;refine wp_region_till (S:=(fun W:World=>RB w X Z Y m p k b W∧W.heap[Q]? =some (.cells #[.int .i64 l1,.int .i64 l2] 78 (0,0)))) 12 (by kernel_rfl) ?_;have HS:=hid (show ((fun W:World=>RB w X Z Y m p k b W∧W.heap[Q]? =some (.cells #[.int .i64 l1,.int .i64 l2] 78 (0,0)))) _ from ⟨HR6.out,HQ6.out⟩);refine tillA 0 (fun _=>HS.out) ?_;refine tillA 1 (fun _=>HS.out) ?_;refine tillA 2 (fun _=>HS.out) ?_;refine tillA 6 (fun _=>HS.out) ?_;refine tillL 3 [3,4,8,11,12] (v:= ?v5) HS.out ?hy5 ?_
           case hy5=>
             intro w hSw;have q0:w.cell? ⟨Q,0,none⟩=some (.int .i64 l1):=rowCell hSw.2 0;have q1:w.cell? ⟨Q,1,none⟩=some (.int .i64 l2):=rowCell hSw.2 1;clear hSw;go_simp;try with_reducible rfl
           refine tillL 7 [7,8,11,12] (v:= ?v6) HS.out ?hy6 ?_
           case hy6=>
             intro w hSw;have q0:w.cell? ⟨Q,0,none⟩=some (.int .i64 l1):=rowCell hSw.2 0;have q1:w.cell? ⟨Q,1,none⟩=some (.int .i64 l2):=rowCell hSw.2 1;clear hSw;go_simp;try with_reducible rfl
           refine tillD1 4 (fun K hK=> ?step7)
           case step7=>
             go_simp;refine (num_any l1 _).mono ?_;rintro e w7 ⟨rfl,hb⟩;have HR7:=hid (HR6.out.after hb);have HQ7:=hid ((hb.block Q (Go.lt_of_block HQ6.out)).trans HQ6.out);clear hb;refine hK.out _ _ (fun _=>⟨HR7.out,HQ7.out⟩) (fun hHeld=> ?_);have HS7:=hid (hHeld (by kernel_rfl));clear hHeld hK K;refine tillA 5 (fun _=>HS7.out) ?_;refine tillD1 8 (fun K hK=> ?step9)
             case step9=>
               go_simp;refine (num_any l2 _).mono ?_;rintro e w8 ⟨rfl,hb⟩;have HR8:=hid (HR7.out.after hb);have HQ8:=hid ((hb.block Q (Go.lt_of_block HQ7.out)).trans HQ7.out);clear hb;refine hK.out _ _ (fun _=>⟨HR8.out,HQ8.out⟩) (fun hHeld=> ?_);have HS9:=hid (hHeld (by kernel_rfl));clear hHeld hK K;refine tillA 9 (fun _=>HS9.out) ?_;refine tillD1 10 (fun K hK=> ?step11)
               case step11=>
                 go_simp;have hb9:Below w8.heap.size w8 (w8.alloc (.cells #[.string ⟨#[108,105,110,101]⟩,.int .u8 3,.bool false,.int .i64 l1,.string ⟨#[]⟩,.slice none 0 0,.slice none 0 0,.string ⟨#[99,111,108,117,109,110]⟩,.int .u8 3,.bool false,.int .i64 l2,.string ⟨#[]⟩,.slice none 0 0,.slice none 0 0] 83)):=(Below.refl _ w8).alloc (Nat.le_refl _) _;have HR9:=hid (HR8.out.after hb9);have HQ9:=hid ((hb9.block Q (Go.lt_of_block HQ8.out)).trans HQ8.out);have HG9:Hid ((w8.alloc (.cells #[.string ⟨#[108,105,110,101]⟩,.int .u8 3,.bool false,.int .i64 l1,.string ⟨#[]⟩,.slice none 0 0,.slice none 0 0,.string ⟨#[99,111,108,117,109,110]⟩,.int .u8 3,.bool false,.int .i64 l2,.string ⟨#[]⟩,.slice none 0 0,.slice none 0 0] 83)).heap[w8.heap.size]? =some (.cells (pairsC [(J.nLine,l1),(J.nColumn,l2)]).toArray 83 (0,0))):=heap_alloc_new w8 _;clear hb9;refine hK.out _ _ (fun _=>⟨HR9.out,HQ9.out⟩) (fun hHeld=> ?_);have HS11:=hid (hHeld (by kernel_rfl));clear hHeld hK K;refine tillD1 11 (fun K hK=> ?step12)
                 case step12=>
                  go_simp;refine (refuse_more 422 er' [(J.nLine,l1),(J.nColumn,l2)] 2 rfl (by decide) (by decide) HPR.out w8.heap.size _ HG9.out (HE.out.under HR9.out.bl).p).mono ?_;rintro e w10 ⟨rfl,hb⟩;have HR10:=hid (HR9.out.after hb);have HQ10:=hid ((hb.block Q (Go.lt_of_block HQ9.out)).trans HQ9.out);obtain ⟨tx,htx⟩:∃tx,textOf (J.pairsV ((J.nError,er'):: [(J.nLine,l1),(J.nColumn,l2)]))=tx:=⟨_,rfl⟩;rw [htx];have HTX:=hid htx;clear hb htx;refine hK.out _ _ (fun _=>⟨HR10.out,HQ10.out⟩) (fun hHeld=> ?_);have HS12:=hid (hHeld (by kernel_rfl));clear hHeld hK K;refine tillD1 12 (fun K hK=> ?step13)
                  case step13=>
                   rw [if_pos (by rfl)];have HYR:Hid ((w10.setRow Z #[.int .u8 0,.string ⟨#[]⟩,.string ⟨#[]⟩,.slice none 0 0,.slice none 0 0,.slice none 0 0,.string ⟨#[]⟩,.string ⟨#[]⟩,.string ⟨#[]⟩,.int .i64 0,.int .i64 0,.int .i64 0,.slice none 0 0,.int .u8 0,.string ⟨#[]⟩,.int .i64 0]).heap[Y]? =some (.cells #[.int .i64 0,.string ⟨#[]⟩] 41 (0,0))):=(setRow_other _ _ _ _ HZY.out.symm).trans HR10.out.rs;refine wp_store_row 39 (.tmp 2) (.tmp 73) (by rfl) Z #[.int .u8 0,.string ⟨#[]⟩,.string ⟨#[]⟩,.slice none 0 0,.slice none 0 0,.slice none 0 0,.string ⟨#[]⟩,.string ⟨#[]⟩,.string ⟨#[]⟩,.int .i64 0,.int .i64 0,.int .i64 0,.slice none 0 0,.int .u8 0,.string ⟨#[]⟩,.int .i64 0] (by rfl) (by rfl) 39 _ HR10.out.az infoAsk rfl (by kernel_rfl) ?_;refine hK.out _ _ (fun hk=>by cases (show true=false from hk)) (fun _=> ?_);clear hK K;try simp only [Act.put]
                   refine tillD1 13 (fun K hK=> ?step14)
                   case step14=>
                    rw [if_pos (by rfl)];refine wp_store_row 41 (.tmp 3) (.tmp 84) (by rfl) Y #[.int .i64 422,.string tx] (by rfl) (by rfl) 41 _ HYR.out infoResp rfl (by kernel_rfl) ?_;refine hK.out _ _ (fun hk=>by cases (show true=false from hk)) (fun _=> ?_);clear hK K;try simp only [Act.put]
                    refine tillA 14 (fun hk=>by cases (show true=false from hk)) ?_;refine wpTill_done (by kernel_rfl) ?_ _;go_wp2_with fail;refine bodyPost_ret (v:= .tuple #[.agg #[.int .u8 0,.string ⟨#[]⟩,.string ⟨#[]⟩,.slice none 0 0,.slice none 0 0,.slice none 0 0,.string ⟨#[]⟩,.string ⟨#[]⟩,.string ⟨#[]⟩,.int .i64 0,.int .i64 0,.int .i64 0,.slice none 0 0,.int .u8 0,.string ⟨#[]⟩,.int .i64 0],.agg #[.int .i64 422,.string tx],.bool false]) (results_cct rfl _ _ Z Y 39 41 #[.int .u8 0,.string ⟨#[]⟩,.string ⟨#[]⟩,.slice none 0 0,.slice none 0 0,.slice none 0 0,.string ⟨#[]⟩,.string ⟨#[]⟩,.string ⟨#[]⟩,.int .i64 0,.int .i64 0,.int .i64 0,.slice none 0 0,.int .u8 0,.string ⟨#[]⟩,.int .i64 0] #[.int .i64 422,.string tx] (0,0) (0,0) _ _ _ rfl ((setRow_other _ _ _ _ HZY.out).trans (setRow_heap _ _ _ _ _ _ HR10.out.az)) rfl (setRow_heap _ _ _ _ _ _ HYR.out) rfl Tryz.underlying39 rfl infoAsk Tryz.underlying41 rfl infoResp) rfl ?_;rw [HXV.out];exact ⟨below_setRow (below_setRow HR10.out.bl HZW.out _) HYW.out _,l1,l2,er',HDD.out,by rw [←HTX.out]⟩
         · have g1:(pi==1)=false:=by rw [beq_eq_false_iff_ne,←HPI.out];omega
           have hrr:=HX.out.symm.trans (R.read_rest HFR.out rfl rfl h1 hz);have HRR:=hid hrr;have HKK:Hid (2≤f.post∧f.post≤9∨f.post=11):=by
             rcases R.find_post HFR.out with h|h|h|h
             · exact absurd h hz
             · exact absurd h h1
             · exact Or.inl h
             · exact Or.inr h
           have HA4':=hid HA4.out;clear hz h1 hrr;have hb0:∃eb,(b.toList== [])=eb:=⟨_,rfl⟩;obtain ⟨eb,heb⟩:=hb0;have HBE:Hid ((eb=true→bb=⟨#[123,125]⟩)∧(eb=false→bb=b)):=by
             have h:=HBB.out;unfold bodyOf at h;rw [Lib.toList_data] at heb;constructor
             · intro h1;rw [if_pos (by simpa [h1] using heb)] at h;exact h.symm
             · intro h1;rw [if_neg (by simpa [h1] using heb)] at h;exact h.symm
           by_cases h7:f.post=7
           · have g7:(pi==7)=true:=by rw [←HPI.out,h7];rfl
             have HN0:Hid ((R.d0 f.post).n=1):=by show (if f.post=7 then (1:Int) else 0)=1;rw [if_pos h7]
             have a10:w4.cell? ⟨A,10,none⟩=some (.int .i64 0):=rowCell HA4.out 10;have fa10:=rowFree HA4.out 10;obtain ⟨w5,hw5⟩:∃w5,w4.setCell ⟨A,10,none⟩ (.int .i64 1)=w5:=⟨_,rfl⟩;have HA5:Hid (w5.heap[A]? =some (.cells #[.int .u8 pi,.string ⟨#[]⟩,.string ⟨#[]⟩,.slice none 0 0,.slice none 0 0,.slice none 0 0,.string ⟨#[]⟩,.string ⟨#[]⟩,.string ⟨#[]⟩,.int .i64 id,.int .i64 1,.int .i64 0,.slice none 0 0,.int .u8 0,.string ⟨#[]⟩,.int .i64 0] 39 (0,0))):=by show _=_;rw [←hw5];exact row_set HA4.out 10 (.int .i64 1)
             have HR5:Hid (RB w X Z Y m p k b w5):=by show RB _ _ _ _ _ _ _ _ _;rw [←hw5];exact HR4.out.put ((G2.refl A none w4).grown (grownBy_set w4 A 10 _) fun q hq=>Or.inl (Option.some.inj hq).symm) HAW.out.1 HAW.out.2.1 HAW.out.2.2.1 HAW.out.2.2.2
             clear h7;go_upto_region 17 with fail;try rw [hw5]
             clear hw5 a10 fa10 r3 p1;have r3:w5.cell? ⟨X,3,none⟩=some (.string b):=rowCell HR5.out.rq 3;have p1:=r3;cases eb with
             | true=>
               have hbe:=HBE.out.1 rfl;have hyp:=HYP.out;rw [hbe] at hyp;go_upto_region 20 with fail;rename Act→World→Prop=>KK
               rename ∀(a:Act) (w:World),_→KK a w=>hKK
               refine Code.wp_mono (fun e a w h=> ?_) (read_tail (bq:=⟨#[123,125]⟩) (id:=id) (KD:=f.post) (n0:=1) (A:=A) (m:=m) (p:=p) (k:=k) (b:=b) (D:=D) (x:=x) HR5.out (by rw [HPI.out];exact HA5.out) HAW.out HE.out hyp HEV.out HNS.out HBAD.out (by rw [HRR.out,←HID.out]) HKK.out HN0.out HZY.out HZW.out HYW.out);cases e with
               | normal=>exact hKK _ _ h
               | _=>exact h
             | false=>
               have hbe:=HBE.out.2 rfl;have hyp:=HYP.out;rw [hbe] at hyp;go_upto_region 20 with fail;rename Act→World→Prop=>KK
               rename ∀(a:Act) (w:World),_→KK a w=>hKK
               refine Code.wp_mono (fun e a w h=> ?_) (read_tail (bq:=b) (id:=id) (KD:=f.post) (n0:=1) (A:=A) (m:=m) (p:=p) (k:=k) (b:=b) (D:=D) (x:=x) HR5.out (by rw [HPI.out];exact HA5.out) HAW.out HE.out hyp HEV.out HNS.out HBAD.out (by rw [HRR.out,←HID.out]) HKK.out HN0.out HZY.out HZW.out HYW.out);cases e with
               | normal=>exact hKK _ _ h
               | _=>exact h
           · have g7:(pi==7)=false:=by rw [beq_eq_false_iff_ne,←HPI.out];omega
             have HN0:Hid ((R.d0 f.post).n=0):=by show (if f.post=7 then (1:Int) else 0)=0;rw [if_neg h7]
             clear h7;go_upto_region 17 with fail;obtain ⟨w5,rfl⟩:∃w5,w5=w4:=⟨w4,rfl⟩;have HA5:=hid HA4.out;have HR5:=hid HR4.out;cases eb with
             | true=>
               have hbe:=HBE.out.1 rfl;have hyp:=HYP.out;rw [hbe] at hyp;go_upto_region 20 with fail;rename Act→World→Prop=>KK
               rename ∀(a:Act) (w:World),_→KK a w=>hKK
               refine Code.wp_mono (fun e a w h=> ?_) (read_tail (bq:=⟨#[123,125]⟩) (id:=id) (KD:=f.post) (n0:=0) (A:=A) (m:=m) (p:=p) (k:=k) (b:=b) (D:=D) (x:=x) HR5.out (by rw [HPI.out];exact HA5.out) HAW.out HE.out hyp HEV.out HNS.out HBAD.out (by rw [HRR.out,←HID.out]) HKK.out HN0.out HZY.out HZW.out HYW.out);cases e with
               | normal=>exact hKK _ _ h
               | _=>exact h
             | false=>
               have hbe:=HBE.out.2 rfl;have hyp:=HYP.out;rw [hbe] at hyp;go_upto_region 20 with fail;rename Act→World→Prop=>KK
               rename ∀(a:Act) (w:World),_→KK a w=>hKK
               refine Code.wp_mono (fun e a w h=> ?_) (read_tail (bq:=b) (id:=id) (KD:=f.post) (n0:=0) (A:=A) (m:=m) (p:=p) (k:=k) (b:=b) (D:=D) (x:=x) HR5.out (by rw [HPI.out];exact HA5.out) HAW.out HE.out hyp HEV.out HNS.out HBAD.out (by rw [HRR.out,←HID.out]) HKK.out HN0.out HZY.out HZW.out HYW.out);cases e with
               | normal=>exact hKK _ _ h
               | _=>exact h
end Go.Proofs.YtohkomndapngjaaGreatDoor

