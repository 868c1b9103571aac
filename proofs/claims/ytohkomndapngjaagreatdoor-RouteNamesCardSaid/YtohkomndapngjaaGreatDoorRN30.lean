/- awake: the guard of layer 30's statements. -/
import Derived.Test.YtohkomndapngjaaGreatDoorRN29
import Derived.Test.YtohkomndapngjaaGreatDoorRows
import Derived.LaidMore
import Derived.PinnedBridge
import Derived.Lib.LaidU8T
import Derived.Lib.LaidIn
import Derived.Deep.DeepHandedRow
import Derived.Deep.DeepWitnessRowRef
import Derived.ProofKit
import Derived.OpenShut
import Derived.Shelf.Vars
import Derived.Test.YtohkomndapngjaaGreatDoorRN21
import Derived.Test.YtohkomndapngjaaGreatDoorRN22
namespace Go.Proofs.YtohkomndapngjaaGreatDoor
set_option maxRecDepth 100000
set_option maxHeartbeats 16000000
open Go.RowKit
open Go.Lib (hid)
def awBody:ByteArray:=⟨#[123,34,107,101,121,34,58,34,107,34,44,34,110,97,109,101,34,58,34,109,34,44,34,118,97,114,115,34,58,123,34,120,34,58,49,125,125]⟩
def awPath:ByteArray:=⟨#[47,109,101,115,115,97,103,101,115]⟩
def awV:J.V:=(⟨6,false,0,⟨#[]⟩,.cons 4 false 0 ⟨#[107]⟩ .nil [] (.cons 4 false 0 ⟨#[109]⟩ .nil [] (.cons 6 false 0 ⟨#[]⟩ (.cons 3 false 1 ⟨#[]⟩ .nil [] .nil) [⟨#[120]⟩] .nil)),[⟨#[107,101,121]⟩,⟨#[110,97,109,101]⟩,⟨#[118,97,114,115]⟩]⟩:J.V)
theorem aw_parse:J.parse awBody.data.toList=(awV,0,0):=by kernel_rfl
theorem aw_find:R.find awPath=some ⟨0,8,0,⟨#[]⟩⟩:=by kernel_rfl
theorem aw_read:R.read false true awPath (awV,0,0)= .deed 8 0 (⟨⟨#[109]⟩,⟨#[107]⟩,⟨#[]⟩,0,0,[⟨⟨#[120]⟩,1,false,1,⟨#[]⟩⟩]⟩:R.D):=by kernel_rfl
theorem aw_even:R.even awV:=fun _=>⟨rfl,by decide,⟨(fun h=>absurd h (by decide)),(fun h=>absurd h (by decide)),(fun _=>⟨rfl,by decide⟩),trivial⟩⟩
theorem models_text:textOf J.modelsV=⟨#[123,34,109,111,100,101,108,115,34,58,91,93,125]⟩:=by unfold textOf;rw [J.modelsV_print]
theorem clock_text:textOf J.clockV=⟨#[123,34,99,108,111,99,107,34,58,48,44,34,110,101,120,116,34,58,48,125]⟩:=by unfold textOf;rw [J.clockV_print]
theorem awake_any (w:World) (hE:EnvX w):Calls Tryz.prog 5 #[] w fun e W=>e= .returned (.bool true)∧Below w.heap.size w W:=by
 have cR:=read_any ⟨#[80,79,83,84]⟩ awPath ⟨#[]⟩ awBody awBody false true (fun _ _ _=>True) w (by kernel_rfl) (by kernel_rfl) (by decide) (by unfold bodyOf;rw [if_neg (by decide)]) hE (by rw [aw_parse];exact aw_even) (by rw [aw_parse];intro a ha;simp only [awV,List.mem_cons,List.not_mem_nil,or_false] at ha;rcases ha with rfl|rfl|rfl<;>decide) (by rw [aw_parse];intro h;exact absurd rfl h) (by rw [aw_find];rintro ⟨f,h1,h2⟩;obtain rfl:=Option.some.inj h1;cases h2);rw [aw_parse,aw_read] at cR;have HE:=hid hE;clear hE;unfold awBody awPath at cR;go_enter Tryz.func5,Tryz.ntmps5;go_wp2_with fail;refine cR.mono ?_;rintro e w1 ⟨hb,hh⟩;obtain ⟨pv,rfl,how⟩:∃pv,e= .returned (.tuple #[.agg #[.int .u8 8,.string ⟨#[]⟩,.string ⟨#[]⟩,.slice none 0 0,.slice none 0 0,.slice none 0 0,.string ⟨#[109]⟩,.string ⟨#[107]⟩,.string ⟨#[]⟩,.int .i64 0,.int .i64 0,.int .i64 0,pv,.int .u8 0,.string ⟨#[]⟩,.int .i64 0],.agg #[.int .i64 0,.string ⟨#[]⟩],.bool true])∧w1.ownsRow w.heap.size 57 5 pv 1 (R.bindsC [⟨⟨#[120]⟩,1,false,1,⟨#[]⟩⟩]):=hh;obtain ⟨a,c,hpv,hat⟩:=BIn.of (ps:= [⟨⟨#[120]⟩,1,false,1,⟨#[]⟩⟩]) how;obtain ⟨g,rfl,hc,hg,hcell⟩:=hat (by decide);have hpv:pv= .slice (some ⟨g,0,none⟩) 1 c:=hpv;subst hpv;have HB1:=hid hb;have HC:=hid hcell;have HG:=hid hg;have hc:1≤c:=hc;clear hb how hat hcell hg cR;go_upto_region 2 with fail;obtain ⟨N,hN⟩:∃N,w1.heap.size=N:=⟨_,rfl⟩;obtain ⟨w2,hw2⟩:∃w2,(w1.alloc (.cells #[.int .u8 8,.string ⟨#[]⟩,.string ⟨#[]⟩,.slice none 0 0,.slice none 0 0,.slice none 0 0,.string ⟨#[109]⟩,.string ⟨#[107]⟩,.string ⟨#[]⟩,.int .i64 0,.int .i64 0,.int .i64 0,.slice (some ⟨g,0,none⟩) 1 c,.int .u8 0,.string ⟨#[]⟩,.int .i64 0] 39)).alloc (.cells #[.int .i64 0,.string ⟨#[]⟩] 41)=w2:=⟨_,rfl⟩;have hb2:Below w1.heap.size w1 w2:=by rw [←hw2];exact ((Below.refl _ w1).alloc (Nat.le_refl _) _).alloc (by simp) _
 have HA2:Hid (w2.heap[N]? =some (.cells #[.int .u8 8,.string ⟨#[]⟩,.string ⟨#[]⟩,.slice none 0 0,.slice none 0 0,.slice none 0 0,.string ⟨#[109]⟩,.string ⟨#[107]⟩,.string ⟨#[]⟩,.int .i64 0,.int .i64 0,.int .i64 0,.slice (some ⟨g,0,none⟩) 1 c,.int .u8 0,.string ⟨#[]⟩,.int .i64 0] 39 (0,0))):=by show _=_;rw [←hw2,Lib.alloc_old _ _ _ (by rw [←hN];simp),←hN];exact heap_alloc_new w1 _
 have HB2:=hid (HB1.out.trans (hb2.mono HB1.out.size));have hgb:=hb2.block g HG.out;have a0:w2.cell? ⟨N,0,none⟩=some (.int .u8 8):=rowCell HA2.out 0;have a6:w2.cell? ⟨N,6,none⟩=some (.string ⟨#[109]⟩):=rowCell HA2.out 6;have a7:w2.cell? ⟨N,7,none⟩=some (.string ⟨#[107]⟩):=rowCell HA2.out 7;have a11:w2.cell? ⟨N,11,none⟩=some (.int .i64 0):=rowCell HA2.out 11;have a12:w2.cell? ⟨N,12,none⟩=some (.slice (some ⟨g,0,none⟩) 1 c):=rowCell HA2.out 12;have e0:w2.cell? ⟨g,0,none⟩=some (.string ⟨#[120]⟩):=(World.cell?_of_block (w:=w1) hgb).trans (HC.out 0 _ rfl);have e1:w2.cell? ⟨g,1,none⟩=some (.int .u8 1):=(World.cell?_of_block (w:=w1) hgb).trans (HC.out 1 _ rfl);have e2:w2.cell? ⟨g,2,none⟩=some (.int .i64 1):=(World.cell?_of_block (w:=w1) hgb).trans (HC.out 2 _ rfl);have e3:w2.cell? ⟨g,3,none⟩=some (.bool false):=(World.cell?_of_block (w:=w1) hgb).trans (HC.out 3 _ rfl);have e4:w2.cell? ⟨g,4,none⟩=some (.string ⟨#[]⟩):=(World.cell?_of_block (w:=w1) hgb).trans (HC.out 4 _ rfl);try rw [hw2]
 try rw [hN]
 clear hw2 hN hb2 hgb;have cM:=look_models w2 (HE.out.under HB2.out).p;unfold world0 ask0 at cM;rw [models_text] at cM;go_wp2_with fail;refine cM.mono ?_;rintro e w3 ⟨rfl,hb⟩;have HB3:=hid (HB2.out.trans (hb.mono HB2.out.size));have cC:=look_clock w3 (HE.out.under HB3.out).p;unfold world0 ask0 at cC;rw [clock_text] at cC;clear hb cM a0 a6 a7 a11 a12 e0 e1 e2 e3 e4;go_wp2_with fail;refine cC.mono ?_;rintro e w4 ⟨rfl,hb⟩;have HB4:=hid (HB3.out.trans (hb.mono HB3.out.size));clear hb cC;go_wp2_with fail;go_ret;exact ⟨rfl,HB4.out⟩
structure EnvY (w:World):Prop where
 x:EnvX w
 k:EnvK w
theorem EnvY.under {w w':World}(h:EnvY w) (hb:Below w.heap.size w w'):EnvY w':=⟨h.x.under hb,h.k.under hb⟩
open Go.RowKit Go.ChangeShapes Go.ChangeAt
open Go.Shelf Go.Lib
theorem own:ownKnob Tryz.prog.godebug=none:=by kernel_rfl
noncomputable def laidWorld (os:Os):World:=
 { World.doorLaid Tryz.prog 200 os with heap:=(World.doorLaid Tryz.prog 200 os).heap.modify 0 fun
  | .cells _ t frozen=> .cells (Lib.firstTab.map fun z=>Value.int .u8 z).toArray t frozen
  | o=>o }
theorem first_eq:Rows.laid_unicode_utf8_first=Lib.firstData:=by unfold Rows.laid_unicode_utf8_first;exact Pinned.utf8First_eq
theorem accept_eq:(Rows.laid_unicode_utf8_acceptRanges:DataW Unit)=Lib.acceptData:=by kernel_rfl
theorem tabs_of {W:World}(h3:Lib.VarReads Tryz.prog W "unicode/utf8.first" Rows.laid_unicode_utf8_first) (h4:Lib.VarReads Tryz.prog W "unicode/utf8.acceptRanges" Rows.laid_unicode_utf8_acceptRanges):Tabs W:=
 utf8Tabs_of_readsT (U8Types.of196 Tryz.lays196) ⟨by kernel_rfl,by kernel_rfl,by kernel_rfl,by kernel_rfl,by kernel_rfl,by kernel_rfl,by kernel_rfl⟩ (first_eq ▸ h3) (accept_eq ▸ h4)
theorem iface_var {W:World}{n nm:String}{d:DataW Unit}{g:Nat}(hg:Tryz.prog.globalNamed n=some g) (ht:(Tryz.prog.globals[g]?).map (·.type)=some 118) (h:Lib.VarReads Tryz.prog W n (.iface nm d)):∃tp p,W.var? Tryz.prog n=some #[.iface tp p]:=by
 obtain ⟨g0,t0,cs,fuel,p,hg0,ht0,hv,hd⟩:=h;obtain rfl:=Option.some.inj (hg.symm.trans hg0);obtain rfl:=Option.some.inj (ht.symm.trans ht0);obtain ⟨f1,u,v,hcs,_,_⟩:=iface_of_trod Tryz.underlying118 hd;obtain ⟨l0⟩:=cs;simp only at hcs;subst hcs;exact ⟨u,v,hv⟩
theorem errs_of {W:World}(h1:Lib.VarReads Tryz.prog W "strconv.ErrSyntax" Rows.laid_strconv_ErrSyntax) (h2:Lib.VarReads Tryz.prog W "strconv.ErrRange" Rows.laid_strconv_ErrRange):Errs W:=
 ⟨iface_var (g:=4) (by kernel_rfl) (by kernel_rfl) h1,iface_var (g:=5) (by kernel_rfl) (by kernel_rfl) h2⟩
theorem pow_eq:(Rows.laid_internal_strconv_uint64pow10:DataW Unit)=Lib.tabData .u64 Lib.pow10Tab:=by kernel_rfl
theorem pows_of {W:World}(h:Lib.VarReads Tryz.prog W "internal/strconv.uint64pow10" Rows.laid_internal_strconv_uint64pow10):Pw W:=by
 obtain ⟨g0,t0,cs,fuel,p,hg0,ht0,hv,hd⟩:=h;obtain rfl:=Option.some.inj ((show Tryz.prog.globalNamed "internal/strconv.uint64pow10" =some 2 by kernel_rfl).symm.trans hg0);obtain rfl:=Option.some.inj ((show (Tryz.prog.globals[2]?).map (·.type)=some 335 by kernel_rfl).symm.trans ht0);rw [pow_eq] at hd;have hcs:=Lib.cells_of_tab Tryz.underlying335 Tryz.underlying257 (by kernel_rfl) (by kernel_rfl) hd;unfold Pw Lib.TabIs;rw [hv,←hcs]
def tzTab:List Int:= [0,1,56,2,57,49,28,3,61,58,42,50,38,29,17,4,62,47,59,36,45,43,51,22,53,39,33,30,24,18,12,5,63,55,48,27,60,41,37,16,46,35,44,21,52,32,23,11,54,26,40,15,34,20,31,10,25,14,19,9,13,8,7,6]
theorem tz_eq:(Rows.laid_math_bits_deBruijn64tab:DataW Unit)=Lib.tabData .u8 tzTab:=by kernel_rfl
theorem tz_of {W:World}(h:Lib.VarReads Tryz.prog W "math/bits.deBruijn64tab" Rows.laid_math_bits_deBruijn64tab):Tz W:=by
 obtain ⟨g0,t0,cs,fuel,p,hg0,ht0,hv,hd⟩:=h;obtain rfl:=Option.some.inj ((show Tryz.prog.globalNamed "math/bits.deBruijn64tab" =some 7 by kernel_rfl).symm.trans hg0);obtain rfl:=Option.some.inj ((show (Tryz.prog.globals[7]?).map (·.type)=some 415 by kernel_rfl).symm.trans ht0);rw [tz_eq] at hd;have hcs:=Lib.cells_of_tab Tryz.underlying415 Tryz.underlying5 (by kernel_rfl) (by kernel_rfl) hd;have ht:Lib.TabIs Tryz.prog W "math/bits.deBruijn64tab" .u8 tzTab:=by
  unfold Lib.TabIs;rw [hv,←hcs]
 exact ht.cell (g:=7) (by kernel_rfl) 15 (by decide)
theorem max_of {W:World}(h:W.ShapedOpen Tryz.prog):∃m,W.cell? ⟨3,0,none⟩=some (.int .i64 m):=
 cell_of_shapedOpen_int (zero:=#[.int .i64 0]) (t:=3) h (of_decide_eq_true (by kernel_rfl)) (by kernel_rfl) rfl (by kernel_rfl) (by kernel_rfl) Tryz.underlying3
theorem pow_lt {W:World}(h:Pw W):2<W.heap.size:=
 Lib.lt_of_cell (h.cell (g:=2) (by kernel_rfl) 0 (by decide))
theorem envY {W:World}(h1:Errs W) (h2:Tabs W) (h3:Tz W) (h4:Pw W) (h5:∃m,W.cell? ⟨3,0,none⟩=some (.int .i64 m)):EnvY W:=
 ⟨⟨⟨h1,h4,pow_lt h4,h5⟩,⟨h2,h3,h4⟩⟩,⟨h1,h2⟩⟩
theorem env_routeNamesRow {W:World}(hL:laidMetH Tryz.prog Rows.routeNamesRow.laid W) (hS:W.ShapedOpen Tryz.prog):EnvY W:=by
 rw [MakeChecks.laidMetH_plain _ _ _ (by kernel_rfl)] at hL;exact envY (errs_of (Lib.laidMet.reads hL (.tail _ (.tail _ (.tail _ (.tail _ (.tail _ (.head _))))))) (Lib.laidMet.reads hL (.tail _ (.tail _ (.tail _ (.tail _ (.head _))))))) (tabs_of (Lib.laidMet.reads hL (.tail _ (.tail _ (.tail _ (.tail _ (.tail _ (.tail _ (.head _)))))))) (Lib.laidMet.reads hL (.tail _ (.tail _ (.tail _ (.head _)))))) (tz_of (Lib.laidMet.reads hL (.tail _ (.head _)))) (pows_of (Lib.laidMet.reads hL (.tail _ (.tail _ (.head _))))) (max_of hS)
end Go.Proofs.YtohkomndapngjaaGreatDoor
namespace Go.Proofs.YtohkomndapngjaaGreatDoor.K
set_option maxRecDepth 100000
set_option maxHeartbeats 16000000
open Go.RowKit Go.Maps
open Go.Lib (hid)
theorem inside_end {R p c M G:Nat}{s:ByteArray}{W:World}(t1 t2:ByteArray) (h:Rd W R s p c W) (hp:p≤s.size) (hr:rest s p= []) (hs:s.size≤1000000000000) (hG:Ground G W) (hGR:G≤R):
  Calls Tryz.prog 191 #[.pointer (some ⟨R,0,none⟩),.agg #[.string t1,.string t2],.int .i64 0,.map (some M)] W fun e W'=>e= .panicked (chain 80 (s.size:Int))∧W.grownBy W' (some R):=by
 obtain ⟨H,hH⟩:∃H,W.heap.size=H:=⟨_,rfl⟩;obtain ⟨w1,hw1⟩:∃w1,(W.alloc (.cells #[.string t1,.string t2] 273)).alloc (.cells #[.pointer none,.slice none 0 0] 68)=w1:=⟨_,rfl⟩;have HR1:Hid (Rd W R s p c w1):=by show Rd _ _ _ _ _ _;rw [←hw1];exact (h.alloc _).alloc _
 have HW1:=hid hw1;have HH:=hid hH;have HRE:=hid hr;have HG:=hid hG;clear h hr hG hw1 hH;go_enter Tryz.func191,Tryz.ntmps191;go_upto_region 2 with fail;rw [HH.out];rw [HW1.out];clear HW1;go_wp2_with fail;go_loopw [11,12] (fun v v12 wr=>v= .slice none 0 0∧Hid (Rd W R s p c wr)) (fun _ _ _=>0)
 case atStart=>exact ⟨rfl,HR1⟩
 case round=>
  obtain ⟨rfl,HQ⟩:=hrel;clear HR1;have cT:=take_l (k:=2) [60,47] ⟨#[60,47]⟩ rfl rfl HQ.out.own hp hs;rw [HRE.out] at cT;go_wp2_with fail;refine cT.mono ?_;rintro e w2 (⟨g1,g2,rfl,g3⟩|⟨g1,rfl,g3⟩)
  · exact absurd g1 (by decide)
  have H2:=hid (HQ.out.below g3);clear g1 g3 cT HQ;have cT:=take_l (k:=4) [60,33,45,45] ⟨#[60,33,45,45]⟩ rfl rfl H2.out.own hp hs;rw [HRE.out] at cT;go_wp2_with fail;refine cT.mono ?_;rintro e w3 (⟨g1,g2,rfl,g3⟩|⟨g1,rfl,g3⟩)
  · exact absurd g1 (by decide)
  have H3:=hid (H2.out.below g3);clear g1 g3 cT H2;have cT:=take_l (k:=9) [60,33,91,67,68,65,84,65,91] ⟨#[60,33,91,67,68,65,84,65,91]⟩ rfl rfl H3.out.own hp hs;rw [HRE.out] at cT;go_wp2_with fail;refine cT.mono ?_;rintro e w4 (⟨g1,g2,rfl,g3⟩|⟨g1,rfl,g3⟩)
  · exact absurd g1 (by decide)
  have H4:=hid (H3.out.below g3);clear g1 g3 cT H3;have cN:=next_l [60,33] ⟨#[60,33]⟩ rfl H4.out.own hp;rw [HRE.out,show ([60,33]:List UInt8).isPrefixOf []=false from rfl] at cN;go_wp2_with fail;refine cN.mono ?_;rintro e w5 ⟨rfl,g3⟩;have H5:=hid (H4.out.below g3);clear g3 cN H4;have cN:=next_l [60,63] ⟨#[60,63]⟩ rfl H5.out.own hp;rw [HRE.out,show ([60,63]:List UInt8).isPrefixOf []=false from rfl] at cN;go_wp2_with fail;refine cN.mono ?_;rintro e w6 ⟨rfl,g3⟩;have H6:=hid (H5.out.below g3);clear g3 cN H5;have cN:=next_l [93,93,62] ⟨#[93,93,62]⟩ rfl H6.out.own hp;rw [HRE.out,show ([93,93,62]:List UInt8).isPrefixOf []=false from rfl] at cN;go_wp2_with fail;refine cN.mono ?_;rintro e w7 ⟨rfl,g3⟩;have H7:=hid (H6.out.below g3);clear g3 cN H6;have cN:=next_l [60] ⟨#[60]⟩ rfl H7.out.own hp;rw [HRE.out,show ([60]:List UInt8).isPrefixOf []=false from rfl] at cN;go_wp2_with fail;refine cN.mono ?_;rintro e w8 ⟨rfl,g3⟩;have H8:=hid (H7.out.below g3);clear g3 cN H7;have cN:=next_l [38] ⟨#[38]⟩ rfl H8.out.own hp;rw [HRE.out,show ([38]:List UInt8).isPrefixOf []=false from rfl] at cN;go_wp2_with fail;refine cN.mono ?_;rintro e w9 ⟨rfl,g3⟩;have H9:=hid (H8.out.below g3);clear g3 cN H8;have HC:X.char []= .error (0,80):=by kernel_rfl
  have cC:=char_any H9.out.own hp hs (HG.out.rd H9.out hGR);rw [HRE.out,HC] at cC;clear HC;go_wp2_with fail;refine cC.mono ?_;rintro e w10 (⟨y,r,hx,rfl,hr⟩|⟨n,e,hx,rfl,hr⟩)
  · cases hx
  · cases hx;exact ⟨rfl,rfl,H9.out.g.trans hr⟩
theorem attrs_gt {R p c:Nat}{s:ByteArray}{W:World}(h:Rd W R s p c W) (hr:rest s p= [62]) (hs:s.size≤1000000000000):
  Calls Tryz.prog 189 #[.pointer (some ⟨R,0,none⟩)] W fun e W'=>e= .returned (.tuple #[.slice none 0 0,.bool true])∧Rd W R s (p+1) c W':=by
 have hl:=rest_len s p;rw [hr] at hl;have hl:1=s.size-p:=hl;have hp:p≤s.size:=by omega
 have HL:Hid (1=s.size-p):=hl;have HR:=hid h;have HRE:=hid hr;clear h hr hl;go_enter Tryz.func189,Tryz.ntmps189;go_wp2_with fail;go_loopw [4,5,6] (fun v v5 v6 wr=>v= .slice none 0 0∧Hid (Rd W R s p c wr)) (fun _ _ _ _=>0)
 case atStart=>exact ⟨rfl,HR⟩
 case round=>
  obtain ⟨rfl,HQ⟩:=hrel;have cBl:=blanks_any HQ.out.own hp hs;rw [HRE.out,show s.size-(X.skip [62]).length=p from (by show s.size-1=p;have:=HL.out;omega)] at cBl;clear HR;go_wp2_with fail;refine cBl.mono ?_;rintro e w1 ⟨rfl,g3⟩;have H1:=hid (HQ.out.trans g3);have cT:=take_l (k:=1) [62] ⟨#[62]⟩ rfl rfl H1.out.own hp hs;rw [HRE.out] at cT;clear g3 cBl HQ;go_wp2_with fail;refine cT.mono ?_;rintro e w2 (⟨g1,g2,rfl,g3⟩|⟨g1,rfl,g3⟩)
  · have H2:=hid (H1.out.trans g3);clear g1 g2 g3 cT;go_wp2_with fail;go_ret2;exact ⟨rfl,H2.out⟩
  · exact absurd g1 (by decide)
theorem resolve_nil {N b:Nat}{k:X.K}{W:World}(at_:Nat) (t2:ByteArray) (spb:ByteArray) (hK:KM W b N k) (hlk:X.look k []=some spb.data.toList):
  Calls Tryz.prog 190 #[.int .i64 at_,.agg #[.string ⟨#[]⟩,.string t2],.slice none 0 0,.map (some b)] W fun e W'=>(∃M,e= .returned (.tuple #[.agg #[.string spb,.string t2,.slice none 0 0,.slice none 0 0,.string ⟨#[]⟩,.int .i64 0,.int .i64 0],.map (some M)]))∧Below W.heap.size W W':=by
 obtain ⟨H,hH⟩:∃H,W.heap.size=H:=⟨_,rfl⟩;obtain ⟨w1,hw1⟩:∃w1,(W.alloc (.cells #[.string ⟨#[]⟩,.string t2] 273)).alloc (.cells #[.string ⟨#[]⟩,.string ⟨#[]⟩,.slice none 0 0,.slice none 0 0,.string ⟨#[]⟩,.int .i64 0,.int .i64 0] 140)=w1:=⟨_,rfl⟩;have hs1:(W.alloc (.cells #[.string ⟨#[]⟩,.string t2] 273)).heap.size=H+1:=by rw [←hH];simp
 have hb1:Below W.heap.size W w1:=by rw [←hw1];exact ((Below.refl _ W).alloc (Nat.le_refl _) _).alloc (by simp) _
 have hn1:w1.heap[H]? =some (.cells #[.string ⟨#[]⟩,.string t2] 273 (0,0)):=by
  rw [←hw1,Go.Lib.alloc_old _ _ H (by rw [hs1];omega),←hH];exact heap_alloc_new W _
 have hz1:w1.heap[H+1]? =some (.cells #[.string ⟨#[]⟩,.string ⟨#[]⟩,.slice none 0 0,.slice none 0 0,.string ⟨#[]⟩,.int .i64 0,.int .i64 0] 140 (0,0)):=by
  rw [←hw1,←hs1];exact heap_alloc_new _ _
 have hsz1:w1.heap.size=H+2:=by rw [←hw1];simp [hH]
 have cC:=clone_any b N k w1 (hK.below hb1);rw [hsz1] at cC;have HW1:=hid hw1;have HH:=hid hH;have HSZ:=hid hsz1;have HB1:=hid hb1;have HN1:=hid hn1;have HZ1:=hid hz1;have HLK:=hid hlk;clear hK hw1 hs1 hsz1 hb1 hn1 hz1 hH hlk;go_enter Tryz.func190,Tryz.ntmps190;go_upto_region 1 with fail;rw [HW1.out,HH.out];clear HW1;go_wp2_with fail;refine cC.mono ?_;rintro e w2 ⟨rfl,hk2,hb2⟩;rw [←HSZ.out] at hb2;have HB2:=hid (HB1.out.trans (hb2.mono HB1.out.size));have HN2:=hid ((hb2.block H (Go.lt_of_block HN1.out)).trans HN1.out);have HZ2:=hid ((hb2.block (H+1) (Go.lt_of_block HZ1.out)).trans HZ1.out);have hrun:=hk2.look ⟨#[]⟩ (by decide);rw [HLK.out,show X.ba ((some spb.data.toList).getD [])=spb from (by simp [X.ba])] at hrun;have hrun:(Instr.lookup 196 (.map (some (H+2))) (.string ⟨#[]⟩) true).run Tryz.prog w2= .ok (.tuple #[.string spb,.bool true]) w2:=hrun;clear cC hk2 hb2 HN1 HZ1 HLK;go_wp2_with fail;go_loopw [25] (fun vi wr=>vi= .int .i64 0∧wr=w2) (fun _ _=>0)
 case atStart=>exact ⟨rfl,rfl⟩
 case round=>
  obtain ⟨rfl,rfl⟩:=hrel;obtain ⟨x0,x1⟩:=row2 HN2.out;obtain ⟨Z,hZ⟩:∃Z,wr.heap.size=Z:=⟨_,rfl⟩;obtain ⟨w3,hw3⟩:∃w3,wr.alloc (.cells #[.string spb,.string t2,.slice none 0 0,.slice none 0 0,.string ⟨#[]⟩,.int .i64 0,.int .i64 0] 140)=w3:=⟨_,rfl⟩;have hb3:Below wr.heap.size wr w3:=by rw [←hw3];exact (Below.refl _ wr).alloc (Nat.le_refl _) _
  have HO3:Hid (w3.heap[Z]? =some (.cells #[.string spb,.string t2,.slice none 0 0,.slice none 0 0,.string ⟨#[]⟩,.int .i64 0,.int .i64 0] 140 (0,0))):=by show _=_;rw [←hw3,←hZ];exact heap_alloc_new wr _
  have HZ3:=hid ((hb3.block (H+1) (Go.lt_of_block HZ2.out)).trans HZ2.out);have HB3:=hid (HB2.out.trans (hb3.mono HB2.out.size));have HW3:=hid hw3;have HZE:=hid hZ;clear hb3 hw3 hZ;go_upto_region 16 with fail;rw [HW3.out,HZE.out];clear HW3 HZE hrun x0 x1;go_wp2_with fail;go_loopw [84] (fun vj wr=>vj= .int .i64 0∧wr=w3) (fun _ _=>0)
  case atStart=>exact ⟨rfl,rfl⟩
  case round=>
   obtain ⟨rfl,rfl⟩:=hrel;obtain ⟨z0,z1,z2,z3,z4,z5,z6⟩:=row7 HO3.out;obtain ⟨y0,y1,y2,y3,y4,y5,y6⟩:=row7 HZ3.out;have f0:=rowFree HZ3.out 0;have f1:=rowFree HZ3.out 1;have f2:=rowFree HZ3.out 2;have f3:=rowFree HZ3.out 3;have f4:=rowFree HZ3.out 4;have f5:=rowFree HZ3.out 5;have f6:=rowFree HZ3.out 6;have HZ4:=hid HZ3.out;go_wp2_with fail;exact bodyPost_ret (v:= .tuple #[.agg #[.string spb,.string t2,.slice none 0 0,.slice none 0 0,.string ⟨#[]⟩,.int .i64 0,.int .i64 0],.map (some (H+2))]) (results_pair rfl _ _ (H+1) 140 _ (0,0) _ (.map (some (H+2))) rfl (st7_row HZ4.out _ _ _ _ _ _ _) rfl Tryz.underlying140 rfl sizeNode) rfl ⟨⟨_,rfl⟩,HB3.out.grown (st7_grown _ (H+1) _ _ _ _ _ _ _) HB3.out.size (fun q hq=>by have:=Option.some.inj hq;have:=HH.out;omega)⟩
theorem elem_gt {R M N G:Nat}{k:X.K}{s:ByteArray}{W:World}(hd:s.data.toList= [60,97,62]) (h:Rd W R s 0 0 W) (hG:Ground G W) (hGR:G≤R) (hK:KM W M N k) (hMR:M≠R) (hlk:X.look k []=some []):
   Calls Tryz.prog 102 #[.pointer (some ⟨R,0,none⟩),.int .i64 0,.map (some M)] W fun e W'=>e= .panicked (chain 80 (s.size:Int))∧W.grownBy W' (some R):=by
 have h3:s.size=3:=by rw [Lib.size_eq,hd];rfl
 have r0:rest s 0= [60,97,62]:=hd;have r1:rest s 1= [97,62]:=by unfold rest;rw [hd];rfl
 have r2:rest s 2= [62]:=by unfold rest;rw [hd];rfl
 have r3:rest s 3= []:=by unfold rest;rw [hd];rfl
 have hs:s.size≤1000000000000:=by omega
 obtain ⟨H,hH⟩:∃H,W.heap.size=H:=⟨_,rfl⟩;obtain ⟨w1,hw1⟩:∃w1,W.alloc (.cells #[.string ⟨#[]⟩,.string ⟨#[]⟩,.slice none 0 0,.slice none 0 0,.string ⟨#[]⟩,.int .i64 0,.int .i64 0] 140)=w1:=⟨_,rfl⟩;have HR1:Hid (Rd W R s 0 0 w1):=by show Rd _ _ _ _ _ _;rw [←hw1];exact h.alloc _
 have HK1:Hid (KM w1 M N k):=by show KM _ _ _ _;rw [←hw1];exact hK.below ((Below.refl _ W).alloc (Nat.le_refl _) _)
 have HMW:Hid (M<W.heap.size∧R<W.heap.size):=by
   obtain ⟨es,clock,m1,_⟩:=hK;exact ⟨Go.lt_of_block m1,h.lt⟩
 obtain ⟨c0,c1,c2⟩:=HR1.out.cells;have f2:=HR1.out.free 2;obtain ⟨w2,hw2⟩:∃w2,w1.setCell ⟨R,2,none⟩ (.int .i64 (1:Nat))=w2:=⟨_,rfl⟩;have HR2:Hid (Rd W R s 0 1 w2):=by show Rd _ _ _ _ _ _;rw [←hw2];exact HR1.out.set2 1
 have g12:w1.grownBy w2 (some R):=by rw [←hw2];exact grownBy_set w1 R 2 _
 have HK2:Hid (KM w2 M N k):=HK1.out.grown g12 (fun e=>hMR (Option.some.inj e).symm);have cM:=must_l [60] ⟨#[60]⟩ rfl HR2.out.own (Nat.zero_le _) hs;rw [r0,show X.must [60] [60,97,62]= .ok ((),[97,62]) from by kernel_rfl] at cM;have HW1:=hid hw1;have HH:=hid hH;have HW2:Hid (w1.setCell ⟨R,2,none⟩ (.int .i64 1)=w2):=hw2;have HG:=hid hG;have HS:=hid hs;have H3:=hid h3;have HD:=hid hd;have HMR:=hid hMR;have HLK:=hid hlk;have HRS:Hid (rest s 1= [97,62]∧rest s 2= [62]∧rest s 3= []):=⟨r1,r2,r3⟩;clear h hG hK hw1 hw2 hH hs h3 hd hMR hlk r0 r1 r2 r3 g12 HK1;go_enter Tryz.func102,Tryz.ntmps102;go_upto_region 1 with fail;rw [HW1.out,HH.out];go_upto_region 7 with fail;rw [HW2.out];clear HW1 HW2 HR1 c0 c1 c2 f2;go_wp2_with fail;refine cM.mono ?_;rintro e w3 (⟨_,r,hx,rfl,hr⟩|⟨m,e,hx,rfl,hr⟩)
 rotate_left
 · cases hx
 cases hx;rw [show s.size-([97,62]:List UInt8).length=1 from (by rw [H3.out];rfl)] at hr;have HR3:=hid (HR2.out.trans hr);have HK3:Hid (KM w3 M N k):=HK2.out.grown hr.g (fun e=>HMR.out (Option.some.inj e).symm);have cN:=name_any HR3.out.own (by rw [H3.out];decide) HS.out;rw [HRS.out.1,show X.name [97,62]= .ok (([],[97]),[62]) from by kernel_rfl] at cN;clear hr cM HR2 HK2;go_wp2_with fail;refine cN.mono ?_;rintro e w4 (⟨tag,r,hx,rfl,hr⟩|⟨m,e,hx,rfl,hr⟩)
 rotate_left
 · cases hx
 cases hx;rw [show s.size-([62]:List UInt8).length=2 from (by rw [H3.out];rfl)] at hr;show _;unfold nameV;rw [show X.ba []=⟨#[]⟩ from rfl,show X.ba [97]=⟨#[97]⟩ from rfl];obtain ⟨Q,hQ⟩:∃Q,w4.heap.size=Q:=⟨_,rfl⟩;obtain ⟨w5,hw5⟩:∃w5,w4.alloc (.cells #[.string ⟨#[]⟩,.string ⟨#[97]⟩] 273)=w5:=⟨_,rfl⟩;have HT5:Hid (w5.heap[Q]? =some (.cells #[.string ⟨#[]⟩,.string ⟨#[97]⟩] 273 (0,0))):=by show _=_;rw [←hw5,←hQ];exact heap_alloc_new w4 _
 have hb5:Below w4.heap.size w4 w5:=by rw [←hw5];exact (Below.refl _ w4).alloc (Nat.le_refl _) _
 have HR5:Hid (Rd W R s 2 1 w5):=(HR3.out.trans hr).below hb5;have HK5:Hid (KM w5 M N k):=(HK3.out.grown hr.g (fun e=>HMR.out (Option.some.inj e).symm)).below hb5;have HQR:Hid (Q≠R∧W.heap.size≤Q):=by
   have h1:=(HR3.out.trans hr).g.size;have h2:=HMW.out.2;rw [hQ] at h1;exact ⟨by omega,h1⟩
 have cA:=attrs_gt HR5.out.own HRS.out.2.1 HS.out;have HW5:=hid hw5;have HQE:=hid hQ;clear hr cN HR3 HK3 hw5 hQ hb5;go_upto_region 9 with fail;rw [HW5.out,HQE.out];clear HW5 HQE;go_wp2_with fail;refine cA.mono ?_;rintro e w6 ⟨rfl,hr⟩;have HR6:=hid (HR5.out.trans hr);have HT6:=hid ((hr.g.block Q (Go.lt_of_block HT5.out) (fun e=>HQR.out.1 (Option.some.inj e))).trans HT5.out);have HK6:Hid (KM w6 M N k):=HK5.out.grown hr.g (fun e=>HMR.out (Option.some.inj e).symm);have cR:=resolve_nil 0 ⟨#[97]⟩ ⟨#[]⟩ HK6.out HLK.out;obtain ⟨q0,q1⟩:=row2 HT6.out;clear hr cA HR5 HT5 HK5;go_wp2_with fail;refine cR.mono ?_;rintro e w7 ⟨⟨M2,rfl⟩,hb7⟩;obtain ⟨D,hD⟩:∃D,w7.heap.size=D:=⟨_,rfl⟩;obtain ⟨w8,hw8⟩:∃w8,w7.alloc (.cells #[.string ⟨#[]⟩,.string ⟨#[97]⟩,.slice none 0 0,.slice none 0 0,.string ⟨#[]⟩,.int .i64 0,.int .i64 0] 140)=w8:=⟨_,rfl⟩;have HD8:Hid (w8.heap[D]? =some (.cells #[.string ⟨#[]⟩,.string ⟨#[97]⟩,.slice none 0 0,.slice none 0 0,.string ⟨#[]⟩,.int .i64 0,.int .i64 0] 140 (0,0))):=by show _=_;rw [←hw8,←hD];exact heap_alloc_new w7 _
 have hb8:Below w7.heap.size w7 w8:=by rw [←hw8];exact (Below.refl _ w7).alloc (Nat.le_refl _) _
 have hb68:Below w6.heap.size w6 w8:=hb7.trans (hb8.mono hb7.size);have HR8:Hid (Rd W R s 3 1 w8):=HR6.out.below hb68;have HT8:=hid ((hb68.block Q (Go.lt_of_block HT6.out)).trans HT6.out);have HQD:Hid (Q≠D∧W.heap.size≤D):=by
   have h1:=Go.lt_of_block HT6.out;have h2:=hb7.size;have h3:=HQR.out.2;rw [hD] at h2;exact ⟨by omega,by omega⟩
 have cP:=place_any s 0 (Nat.zero_le _) HS.out w8;unfold posV at cP;obtain ⟨ln,hln⟩:∃ln:Int,((X.lineOf s.data.toList 0:Nat):Int)=ln:=⟨_,rfl⟩;obtain ⟨cl,hcl⟩:∃cl:Int,((X.colOf s.data.toList 0:Nat):Int)=cl:=⟨_,rfl⟩;rw [hln,hcl] at cP;have HW8:=hid hw8;have HDE:=hid hD;clear hb7 hb8 hb68 hw8 hD hln hcl cR HT6 HK6 HR6 q0 q1;go_upto_region 11 with fail;rw [HW8.out,HDE.out];clear HW8 HDE;obtain ⟨c0,c1, -⟩:=HR8.out.cells;go_wp2_with fail;refine cP.mono ?_;rintro e w9 ⟨rfl,g3⟩;have HD9:=hid ((g3.block D (Go.lt_of_block HD8.out)).trans HD8.out);have HR9:Hid (Rd W R s 3 1 w9):=HR8.out.below g3;have HT9:=hid ((g3.block Q (Go.lt_of_block HT8.out)).trans HT8.out);obtain ⟨w10,hw10⟩:∃w10,(w9.setCell ⟨D,5,none⟩ (.int .i64 ln)).setCell ⟨D,6,none⟩ (.int .i64 cl)=w10:=⟨_,rfl⟩;have g910:w9.grownBy w10 (some D):=by rw [←hw10];exact (grownBy_set w9 D 5 _).trans (grownBy_set _ D 6 _)
 have HR10:Hid (Rd W R s 3 1 w10):=by
   show Rd _ _ _ _ _ _;rw [←hw10];exact (HR9.out.put HQD.out.2 5 _).put HQD.out.2 6 _
 have HT10:=hid ((g910.block Q (Go.lt_of_block HT9.out) (fun e=>HQD.out.1 (Option.some.inj e))).trans HT9.out);have z5:=rowFree HD9.out 5;have z6:=rowFree HD9.out 6;obtain ⟨-, -, -, -, -,y5,y6⟩:=row7 HD9.out;have HW10:=hid hw10;clear g3 cP hw10 g910 HD8 HR8 HT8 c0 c1;go_upto_region 12 with fail;rw [HW10.out];clear HW10 HD9 HR9 HT9 z5 z6 y5 y6;obtain ⟨q0,q1⟩:=row2 HT10.out;have hg:Ground G w10:=HG.out.rd HR10.out hGR;have cI:=inside_end (M:=M2) ⟨#[]⟩ ⟨#[97]⟩ HR10.out.own (by rw [H3.out];decide) HRS.out.2.2 HS.out hg hGR;clear hg;go_wp2_with fail;refine cI.mono ?_;rintro e w11 ⟨rfl,hr⟩;exact ⟨rfl,rfl,HR10.out.g.trans hr⟩
theorem parse_gt (s:ByteArray) (hd:s.data.toList= [60,97,62]) (W:World) (hE:Errs W) (hT:Tabs W):
   Calls Tryz.prog 54 #[.string s] W (ParseOf W s (.error (0,80))):=by
 have h3:s.size=3:=by rw [Lib.size_eq,hd];rfl
 have hs:s.size≤1000000000000:=by omega
 have r0:rest s 0= [60,97,62]:=hd;obtain ⟨H,hH⟩:∃H,W.heap.size=H:=⟨_,rfl⟩;obtain ⟨w1,hw1⟩:∃w1,(((W.alloc (.cells #[.string s] 9)).alloc (.cells #[.string ⟨#[]⟩,.string ⟨#[]⟩,.slice none 0 0,.slice none 0 0,.string ⟨#[]⟩,.int .i64 0,.int .i64 0] 140)).alloc (.cells #[.int .i64 0,.int .i64 0] 78)).alloc (.cells #[.int .i64 0] 27)=w1:=⟨_,rfl⟩;have HP1:Hid (PB W H s w1):=by show PB _ _ _ _;rw [←hw1,←hH];exact pb_first s W
 have HG0:=Ground.first hE hT;rw [hH] at HG0;have HG:=hid HG0;obtain ⟨R,hR⟩:∃R,w1.heap.size=R:=⟨_,rfl⟩;have HR4:Hid (H+4≤R):=by have:=HP1.out.lt;show _≤_;omega
 have HRH:Hid (H≤R):=by have:=HR4.out;show _≤_;omega
 obtain ⟨w2,hw2⟩:∃w2,w1.alloc (.cells #[.string s,.int .i64 0,.int .i64 0] 194)=w2:=⟨_,rfl⟩;have hr2:w2.heap[R]? =some (mRow s 0 0):=by rw [←hw2,←hR];exact heap_alloc_new w1 _
 have HR2:Hid (Rd w2 R s 0 0 w2):=⟨⟨rfl,rfl,rfl,Nat.le_refl _,fun _ _ _=>rfl⟩,hr2,Go.lt_of_block hr2⟩;have HP2:Hid (PB W H s w2):=by show PB _ _ _ _;rw [←hw2];exact HP1.out.below ((Below.refl _ w1).alloc (Nat.le_refl _) _)
 have HW1:=hid hw1;have HW2:=hid hw2;have HH:=hid hH;have HRE:=hid hR;have HD:=hid hd;have H3:=hid h3;have b0:w1.cell? ⟨H,0,none⟩=some (.string s):=rowCell HP1.out.s 0;have t0:decide ((65536:Int)<(s.size:Int))=false:=decide_eq_false (by omega);have t1:decide (65536<s.size)=false:=decide_eq_false (by omega);have HR0:=hid r0;have cT:=take_l (k:=21) X.head1 ⟨#[60,63,120,109,108,32,118,101,114,115,105,111,110,61,34,49,46,48,34,63,62]⟩ rfl rfl HR2.out (Nat.zero_le _) hs;rw [r0] at cT;have HS:=hid hs;clear hE hT hw1 hH HG0 hR hw2 hr2 r0 hd h3 hs;go_enter_defers Tryz.func54,Tryz.ntmps54;go_upto_region 1 with fail;rw [HW1.out,HH.out,show H+1+1+1=H+3 from rfl,show H+1+1=H+2 from rfl];go_upto_region 5 with fail;rw [HW2.out,HRE.out];clear HW1 HW2 HH HRE b0 t0 t1;go_wp2_with fail;refine cT.mono ?_;rintro e w3 (⟨g1,g2,rfl,g3⟩|⟨g1,rfl,g3⟩)
 · exact absurd g1 (by decide)
 have H2':=hid (HR2.out.below g3);have HP2':=hid (HP2.out.below g3);have cT2:=take_l (k:=38) X.head2 ⟨#[60,63,120,109,108,32,118,101,114,115,105,111,110,61,34,49,46,48,34,32,101,110,99,111,100,105,110,103,61,34,85,84,70,45,56,34,63,62]⟩ rfl rfl H2'.out.own (Nat.zero_le _) HS.out;rw [HR0.out] at cT2;clear g3 cT HR2 HP2;go_wp2_with fail;refine cT2.mono ?_;rintro e w3 (⟨k1,g2,rfl,g3⟩|⟨k1,rfl,g3⟩)
 · exact absurd k1 (by decide)
 have H4:=hid (H2'.out.below g3);have HP3:=hid (HP2'.out.below g3);have cM:=misc_any (s.size+1) (by omega) H4.out.own (Nat.zero_le _) HS.out (HG.out.keep HP3.out.b) HRH.out;rw [HR0.out,H3.out,show X.misc (3+1) [60,97,62]= .ok ((),[60,97,62]) from by kernel_rfl] at cM;clear g1 k1 g3 cT2 H2' HP2';go_wp2_with fail;refine cM.mono ?_;rintro e w4 (⟨_,r,hx,rfl,hr⟩|⟨n,e,hx,rfl,hr⟩)
 rotate_left
 · cases hx
 cases hx;rw [show s.size-([60,97,62]:List UInt8).length=0 from (by rw [H3.out];rfl)] at hr;have H5:=hid (H4.out.trans hr);have HP4:Hid (PB W H s w4):=HP3.out.grown hr.g HR4.out;clear hr cM H4 HP3;have cN:=next_l [60] ⟨#[60]⟩ rfl H5.out.own (Nat.zero_le _);rw [HR0.out,show ([60]:List UInt8).isPrefixOf [60,97,62]=true from rfl] at cN;go_wp2_with fail;refine cN.mono ?_;rintro e w5 ⟨rfl,g3⟩;have H6:=hid (H5.out.below g3);have HP6:=hid (HP4.out.below g3);clear g3 cN H5 HP4;have cN:=next_l [60,33] ⟨#[60,33]⟩ rfl H6.out.own (Nat.zero_le _);rw [HR0.out,show ([60,33]:List UInt8).isPrefixOf [60,97,62]=false from rfl] at cN;go_wp2_with fail;refine cN.mono ?_;rintro e w6 ⟨rfl,g3⟩;have H7:=hid (H6.out.below g3);have HP7:=hid (HP6.out.below g3);clear g3 cN H6 HP6;have cN:=next_l [60,63] ⟨#[60,63]⟩ rfl H7.out.own (Nat.zero_le _);rw [HR0.out,show ([60,63]:List UInt8).isPrefixOf [60,97,62]=false from rfl] at cN;go_wp2_with fail;refine cN.mono ?_;rintro e w7 ⟨rfl,g3⟩;have H8:=hid (H7.out.below g3);have HP8:=hid (HP7.out.below g3);clear g3 cN H7 HP7;have hmm:=@run_makeMap Tryz.prog;have m0:KM (w7.alloc (.map #[] 0)) w7.heap.size 0 []:=World.ownsMap_made (H:=Unit) w7 Tryz.prog 9 (plainElem Tryz.prog 9);obtain ⟨w8,u1,m1,t1⟩:=m0.put (by unfold maxLen;omega) ⟨#[]⟩ ⟨#[]⟩ (by decide) (by decide);obtain ⟨w9,u2,m2,t2⟩:=m1.put (by unfold maxLen;omega) ⟨#[120,109,108]⟩ ⟨#[104,116,116,112,58,47,47,119,119,119,46,119,51,46,111,114,103,47,88,77,76,47,49,57,57,56,47,110,97,109,101,115,112,97,99,101]⟩ (by decide) (by decide);have HB79:Hid (Below w7.heap.size w7 w9):=by
   have b0:Below w7.heap.size w7 (w7.alloc (.map #[] 0)):=(Below.refl _ w7).alloc (Nat.le_refl _) _;exact b0.grown (t1.grown.trans t2.grown) b0.size (fun q hq=>by simp at hq;omega)
 have H9:=hid (H8.out.below HB79.out);have HP9:=hid (HP8.out.below HB79.out);have HMR:Hid (w7.heap.size≠R):=by have:=Go.lt_of_block H8.out.r;show _≠_;omega
 have cE:=elem_gt HD.out H9.out.own (HG.out.keep HP9.out.b) HRH.out m2 HMR.out rfl;obtain ⟨M,hM⟩:∃M,w7.heap.size=M:=⟨_,rfl⟩;clear m0 m1 m2 t1 t2 hM;go_wp2_with fail;refine cE.mono ?_;rintro _ w10 ⟨rfl,hr⟩;exact leave_fail (n:=0) rfl rfl rfl rfl HS.out (HP9.out.grown hr HR4.out)
theorem parse_open (W:World) (hE:Errs W) (hT:Tabs W):
   Calls Tryz.prog 54 #[.string ⟨#[60,97,62]⟩] W fun en W'=>en= .returned (.tuple #[.agg zero7,.agg #[.int .i64 1,.int .i64 4],.int .i64 80])∧Below W.heap.size W W':=by
 refine (parse_gt ⟨#[60,97,62]⟩ rfl W hE hT).mono ?_;rintro en W' (⟨e,cs,hx,_⟩|⟨n,er,hx,rfl,hb⟩)
 · cases hx
 · cases hx;exact ⟨by kernel_rfl,hb⟩
end Go.Proofs.YtohkomndapngjaaGreatDoor.K
namespace Go.Proofs.YtohkomndapngjaaGreatDoor
set_option maxRecDepth 100000
set_option maxHeartbeats 16000000
open Go.RowKit
theorem mread_open (w:World) (hE:EnvK w):
  Calls Tryz.prog 17 #[.string ⟨#[60,97,62]⟩] w fun e W=> ∃p q:Int,(p=1∧q=4)∧e= .returned (.tuple #[.agg model0,.agg #[.int .i64 p,.int .i64 q],.int .i64 80])∧Below w.heap.size w W:=
 mread_err _ 80 (by decide) (fun p q=>p=1∧q=4) w (fun w' hb=>(K.parse_open w' (hE.under hb).e (hE.under hb).t).mono (fun _ _ ⟨h1,h2⟩=>⟨1,4,⟨rfl,rfl⟩,h1,h2⟩))
def Tells (x:ByteArray×ByteArray×ByteArray×Int×ByteArray):Prop:= ∀w:World,EnvY w→Calls Tryz.prog 7 #[.agg #[.string x.1,.string x.2.1,.string ⟨#[]⟩,.string x.2.2.1]] w fun e W=>e= .returned (.tuple #[.agg (ask0 0),.agg #[.int .i64 x.2.2.2.1,.string x.2.2.2.2],.bool false])∧Below w.heap.size w W
def objV:J.V:=⟨6,false,0,⟨#[]⟩,.nil,[]⟩
theorem obj_parse:J.parse (⟨#[123,125]⟩:ByteArray).data.toList=(objV,0,0):=by kernel_rfl
theorem obj_even:R.even objV:=fun _=>⟨rfl,by decide,trivial⟩
theorem tells_no {m p b an:ByteArray}(get post:Bool) {s r:Int}(hg:(m.data.toList== [71,69,84])=get) (hp:(m.data.toList== [80,79,83,84])=post) (hps:p.size≤100000) (hbb:bodyOf b=⟨#[123,125]⟩) (hr:R.read get post p (objV,0,0)= .no s r) (hd:post=true→(R.find p).all (fun f=>f.post !=1)=true) (han:textOf (J.errV r)=an):Tells (m,p,b,s,an):=by
 intro w hE;have c:=read_any m p ⟨#[]⟩ b ⟨#[123,125]⟩ get post (fun _ _ _=>True) w hg hp hps hbb hE.x (by rw [obj_parse];exact obj_even) (by rw [obj_parse];intro a h;cases h) (by rw [obj_parse];intro h;exact absurd rfl h) (fun ⟨f,h1,h2⟩ h3=>by have:=hd h3;rw [h1] at this;simp [h2] at this);rw [obj_parse,hr] at c;refine c.mono ?_;rintro e W ⟨hb,he⟩;exact ⟨by rw [←han];exact he,hb⟩
def ex:List (ByteArray×ByteArray×ByteArray×Int×ByteArray):= [(⟨#[71,69,84]⟩,⟨#[47,115,105,103,110,97,108,115]⟩,⟨#[]⟩,405,⟨#[123,34,101,114,114,111,114,34,58,51,48,48,125]⟩),(⟨#[71,69,84]⟩,⟨#[47,120]⟩,⟨#[]⟩,404,⟨#[123,34,101,114,114,111,114,34,58,51,48,49,125]⟩),(⟨#[80,79,83,84]⟩,⟨#[47,115,105,103,110,97,108,115]⟩,⟨#[123,125]⟩,400,⟨#[123,34,101,114,114,111,114,34,58,52,125]⟩),(⟨#[80,79,83,84]⟩,⟨#[47,115,105,103,110,97,108,115]⟩,⟨#[123,34,110,97,109,101,34,58]⟩,400,⟨#[123,34,101,114,114,111,114,34,58,52,44,34,97,116,34,58,56,125]⟩),(⟨#[80,79,83,84]⟩,⟨#[47,106,111,98,115,47,48,47,100,111,110,101]⟩,⟨#[123,125]⟩,404,⟨#[123,34,101,114,114,111,114,34,58,51,48,49,125]⟩),(⟨#[80,79,83,84]⟩,⟨#[47,109,111,100,101,108,115]⟩,⟨#[60,97,62]⟩,422,⟨#[123,34,101,114,114,111,114,34,58,56,48,44,34,108,105,110,101,34,58,49,44,34,99,111,108,117,109,110,34,58,52,125]⟩),(⟨#[80,85,84]⟩,⟨#[47,109,111,100,101,108,115]⟩,⟨#[]⟩,405,⟨#[123,34,101,114,114,111,114,34,58,51,48,48,125]⟩),(⟨#[71,69,84]⟩,⟨#[47,106,111,98,115,47,102,101,116,99,104]⟩,⟨#[]⟩,405,⟨#[123,34,101,114,114,111,114,34,58,51,48,48,125]⟩),(⟨#[71,69,84]⟩,⟨#[47,109,111,100,101,108,115,47]⟩,⟨#[]⟩,404,⟨#[123,34,101,114,114,111,114,34,58,51,48,49,125]⟩),(⟨#[80,79,83,84]⟩,⟨#[47,106,111,98,115,47,50,49,52,55,52,56,51,54,52,56,47,100,111,110,101]⟩,⟨#[]⟩,404,⟨#[123,34,101,114,114,111,114,34,58,51,48,49,125]⟩)]
theorem ex_0:Tells (⟨#[71,69,84]⟩,⟨#[47,115,105,103,110,97,108,115]⟩,⟨#[]⟩,405,⟨#[123,34,101,114,114,111,114,34,58,51,48,48,125]⟩):=tells_no (r:=300) true false (by kernel_rfl) (by kernel_rfl) (by decide) (by kernel_rfl) (by kernel_rfl) (fun h=>by cases h) (by kernel_rfl)
theorem ex_1:Tells (⟨#[71,69,84]⟩,⟨#[47,120]⟩,⟨#[]⟩,404,⟨#[123,34,101,114,114,111,114,34,58,51,48,49,125]⟩):=tells_no (r:=301) true false (by kernel_rfl) (by kernel_rfl) (by decide) (by kernel_rfl) (by kernel_rfl) (fun h=>by cases h) (by kernel_rfl)
theorem ex_2:Tells (⟨#[80,79,83,84]⟩,⟨#[47,115,105,103,110,97,108,115]⟩,⟨#[123,125]⟩,400,⟨#[123,34,101,114,114,111,114,34,58,52,125]⟩):=tells_no (r:=4) false true (by kernel_rfl) (by kernel_rfl) (by decide) (by kernel_rfl) (by kernel_rfl) (fun _=>by kernel_rfl) (by kernel_rfl)
theorem ex_4:Tells (⟨#[80,79,83,84]⟩,⟨#[47,106,111,98,115,47,48,47,100,111,110,101]⟩,⟨#[123,125]⟩,404,⟨#[123,34,101,114,114,111,114,34,58,51,48,49,125]⟩):=tells_no (r:=301) false true (by kernel_rfl) (by kernel_rfl) (by decide) (by kernel_rfl) (by kernel_rfl) (fun _=>by kernel_rfl) (by kernel_rfl)
theorem ex_6:Tells (⟨#[80,85,84]⟩,⟨#[47,109,111,100,101,108,115]⟩,⟨#[]⟩,405,⟨#[123,34,101,114,114,111,114,34,58,51,48,48,125]⟩):=tells_no (r:=300) false false (by kernel_rfl) (by kernel_rfl) (by decide) (by kernel_rfl) (by kernel_rfl) (fun h=>by cases h) (by kernel_rfl)
theorem ex_7:Tells (⟨#[71,69,84]⟩,⟨#[47,106,111,98,115,47,102,101,116,99,104]⟩,⟨#[]⟩,405,⟨#[123,34,101,114,114,111,114,34,58,51,48,48,125]⟩):=tells_no (r:=300) true false (by kernel_rfl) (by kernel_rfl) (by decide) (by kernel_rfl) (by kernel_rfl) (fun h=>by cases h) (by kernel_rfl)
theorem ex_8:Tells (⟨#[71,69,84]⟩,⟨#[47,109,111,100,101,108,115,47]⟩,⟨#[]⟩,404,⟨#[123,34,101,114,114,111,114,34,58,51,48,49,125]⟩):=tells_no (r:=301) true false (by kernel_rfl) (by kernel_rfl) (by decide) (by kernel_rfl) (by kernel_rfl) (fun h=>by cases h) (by kernel_rfl)
theorem ex_9:Tells (⟨#[80,79,83,84]⟩,⟨#[47,106,111,98,115,47,50,49,52,55,52,56,51,54,52,56,47,100,111,110,101]⟩,⟨#[]⟩,404,⟨#[123,34,101,114,114,111,114,34,58,51,48,49,125]⟩):=tells_no (r:=301) false true (by kernel_rfl) (by kernel_rfl) (by decide) (by kernel_rfl) (by kernel_rfl) (fun _=>by kernel_rfl) (by kernel_rfl)
theorem ex3_parse:J.parse (⟨#[123,34,110,97,109,101,34,58]⟩:ByteArray).data.toList=(J.V.zero,8,4):=by kernel_rfl
theorem ex_3:Tells (⟨#[80,79,83,84]⟩,⟨#[47,115,105,103,110,97,108,115]⟩,⟨#[123,34,110,97,109,101,34,58]⟩,400,⟨#[123,34,101,114,114,111,114,34,58,52,44,34,97,116,34,58,56,125]⟩):=by
 intro w hE;have c:=read_any ⟨#[80,79,83,84]⟩ ⟨#[47,115,105,103,110,97,108,115]⟩ ⟨#[]⟩ ⟨#[123,34,110,97,109,101,34,58]⟩ ⟨#[123,34,110,97,109,101,34,58]⟩ false true (fun _ _ _=>True) w (by kernel_rfl) (by kernel_rfl) (by decide) (by kernel_rfl) hE.x (by rw [ex3_parse];intro h;cases h) (by rw [ex3_parse];intro a h;cases h) (by rw [ex3_parse];intro _;exact prints_at 4 8 (by decide) (by decide)) (fun ⟨f,h1,h2⟩ _=>by have:=(show (R.find ⟨#[47,115,105,103,110,97,108,115]⟩).all (fun f=>f.post !=1)=true by kernel_rfl);rw [h1] at this;simp [h2] at this);rw [ex3_parse,show R.read false true ⟨#[47,115,105,103,110,97,108,115]⟩ (J.V.zero,8,4)= .bad 8 4 by kernel_rfl] at c;refine c.mono ?_;rintro e W ⟨hb,he⟩;exact ⟨by rw [show (⟨#[123,34,101,114,114,111,114,34,58,52,44,34,97,116,34,58,56,125]⟩:ByteArray)=textOf (J.pairsV [(J.nError,4),(J.nAt,8)]) by kernel_rfl];exact he,hb⟩
theorem ex5_parse:J.parse (⟨#[60,97,62]⟩:ByteArray).data.toList=(J.V.zero,0,4):=by kernel_rfl
theorem ex_5:Tells (⟨#[80,79,83,84]⟩,⟨#[47,109,111,100,101,108,115]⟩,⟨#[60,97,62]⟩,422,⟨#[123,34,101,114,114,111,114,34,58,56,48,44,34,108,105,110,101,34,58,49,44,34,99,111,108,117,109,110,34,58,52,125]⟩):=by
 intro w hE;have c:=read_any ⟨#[80,79,83,84]⟩ ⟨#[47,109,111,100,101,108,115]⟩ ⟨#[]⟩ ⟨#[60,97,62]⟩ ⟨#[60,97,62]⟩ false true (fun p q r=>p=1∧q=4∧r=80) w (by kernel_rfl) (by kernel_rfl) (by decide) (by kernel_rfl) hE.x (by rw [ex5_parse];intro h;cases h) (by rw [ex5_parse];intro a h;cases h) (by rw [ex5_parse];intro _;exact prints_at 4 0 (by decide) (by decide))
  (fun _ _ w' hb=>(mread_open w' (hE.under hb).k).mono fun e W ⟨p,q,⟨h1,h2⟩,he,hB⟩=>⟨p,q,80,⟨h1,h2,rfl⟩,by decide,by rw [h1,h2];exact prints_place 80 1 4 (by decide) (by decide) (by decide),he,hB⟩)
 rw [ex5_parse,show R.read false true ⟨#[47,109,111,100,101,108,115]⟩ (J.V.zero,0,4)= .deploy by kernel_rfl] at c;refine c.mono ?_;rintro e W ⟨hb,p,q,r,⟨rfl,rfl,rfl⟩,he⟩;exact ⟨by rw [show (⟨#[123,34,101,114,114,111,114,34,58,56,48,44,34,108,105,110,101,34,58,49,44,34,99,111,108,117,109,110,34,58,52,125]⟩:ByteArray)=textOf (J.pairsV [(J.nError,80),(J.nLine,1),(J.nColumn,4)]) by kernel_rfl];exact he,hb⟩
theorem ex_all (i:Nat) (x:ByteArray×ByteArray×ByteArray×Int×ByteArray) (h:ex[i]? =some x):Tells x:=by
 match i,h with
 | 0,h=>cases h;exact ex_0
 | 1,h=>cases h;exact ex_1
 | 2,h=>cases h;exact ex_2
 | 3,h=>cases h;exact ex_3
 | 4,h=>cases h;exact ex_4
 | 5,h=>cases h;exact ex_5
 | 6,h=>cases h;exact ex_6
 | 7,h=>cases h;exact ex_7
 | 8,h=>cases h;exact ex_8
 | 9,h=>cases h;exact ex_9
 | i+10,h=>simp [ex] at h
end Go.Proofs.YtohkomndapngjaaGreatDoor

