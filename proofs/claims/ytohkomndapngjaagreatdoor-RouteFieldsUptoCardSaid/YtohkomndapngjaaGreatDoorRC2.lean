/- Rows of bytes of a call's own: what holds of them under growth, and their string. -/
import Derived.Test.YtohkomndapngjaaGreatDoorProg
import Derived.WalkKit
import Derived.Below
import Derived.Laws.BytesString
import Derived.Lib.Hide
import Derived.Lib.AppendStr
import Derived.Lib.Strings
import Derived.Lib.UnsafeStr
import Derived.Test.YtohkomndapngjaaGreatDoorRC1
import Derived.Test.YtohkomndapngjaaGreatDoorShelfB
import Derived.Lib.FrozenHead2
import Derived.Lib.OthersKept
import Derived.Test.YtohkomndapngjaaGreatDoorShelf
import Derived.WalkLawsBesides
import Derived.BigGuardPart
import Derived.Deep.DeepMust
import Derived.Lib.RuneBytes
import Derived.Test.YtohkomndapngjaaGreatDoorShelfI
import Derived.Laws.RangeAny
import Derived.Lib.IndexLaws
import Derived.Deep.QuietTactic
import Derived.BigQuiet
import Derived.Deep.LoopGhost
import Derived.WalkMore
import Derived.Lib.ParseIntBTie
import Derived.Lib.ItoaLen
import Derived.RowKit
namespace Go.Proofs.YtohkomndapngjaaGreatDoor
set_option maxRecDepth 100000
set_option maxHeartbeats 16000000
open Go.RowKit
open Go.Lib (hid)
theorem infoByte:(Tryz.prog.info? 5).map (fun i=>(i.zero,i.size,i.bytes))=some (some (.int .u8 0),1,1):=by kernel_rfl
theorem foldl_push:∀(l:List Int) (r:ByteArray),l.foldl (fun r n=>r.push (UInt8.ofNat n.toNat)) r=⟨(r.data.toList++l.map fun n=>UInt8.ofNat n.toNat).toArray⟩:=by
 intro l;induction l with
 | nil=>intro r;simp
 | cons n l ih=>intro r;rw [List.foldl_cons,ih];simp [ByteArray.push]
namespace W
def hexD (n:Nat):UInt8:=if n<10 then UInt8.ofNat (48+n) else UInt8.ofNat (87+n)
end W
def Tz (w:World):Prop:=w.cell? ⟨7,15,none⟩=some (.int .u8 4)
theorem Tz.keep {w W:World}(h:Tz w) (hb:Below w.heap.size w W):Tz W:=(hb.cell (p:=⟨7,15,none⟩) (Lib.lt_of_cell h)).trans h
theorem tz64 (w:World) (h:Tz w):Calls Tryz.prog 273 #[.int .u64 16] w fun e w'=>e= .returned (.int .i64 4)∧w'=w:=by
 have h0:w.cell? ⟨7,15,none⟩=some (.int .u8 4):=h;have e1:IntKind.u64.wrap (-16)=18446744073709551600:=by kernel_rfl
 have e2:bits .and .u64 16 18446744073709551600=16:=by kernel_rfl
 have e3:IntKind.u64.wrap (16*285870213051353865)=4573923408821661840:=by kernel_rfl
 have e4:(4573923408821661840:Int) / 288230376151711744=15:=by kernel_rfl
 have e5:(4573923408821661840 / 288230376151711744:Int).toNat=15:=by kernel_rfl
 clear h;go_enter Tryz.func273,Tryz.ntmps273;go_wp2_with fail;go_ret;exact ⟨rfl,rfl⟩
theorem tz (w:World) (h:Tz w):Calls Tryz.prog 225 #[.int .u64 16] w fun e w'=>e= .returned (.int .i64 4)∧w'=w:=by
 have c:=tz64 w h;clear h;go_enter Tryz.func225,Tryz.ntmps225;go_wp2_with fail;refine c.mono ?_;rintro e w' ⟨rfl,hw⟩;rw [hw];clear hw c;go_wp2_with fail;go_ret;exact ⟨rfl,rfl⟩
theorem pow2 (w:World):Calls Tryz.prog 224 #[.int .i64 16] w fun e w'=>e= .returned (.bool true)∧w'=w:=by
 go_enter Tryz.func224,Tryz.ntmps224;go_wp2_with fail;go_ret;exact ⟨rfl,rfl⟩
theorem conv_list {w:World}{g o:Nat}(l:List UInt8) {cap:Nat}(h:∀j c,l[j]? =some c→w.cell? ⟨g,o+j,none⟩=some (.int .u8 (c.toNat:Nat))):(convert 66 9 (.slice (some ⟨g,o,none⟩) l.length cap)).run Tryz.prog w= .ok (.string ⟨l.toArray⟩) w:=by
 rw [run_convert_bytes_string _ _ _ _ _ _ _ Tryz.underlying66 Tryz.underlying5 Tryz.underlying9];have hl:(loadCells ⟨g,o,none⟩ l.length).run Tryz.prog w= .ok ((l.map fun c=>(c.toNat:Int)).map (Value.int .u8)).toArray w:=by
  have:=run_loadCells_list (P:=Tryz.prog) w ⟨g,o,none⟩ ((l.map fun c=>(c.toNat:Int)).map (Value.int .u8)) (fun j u hu=>by
   have e:(⟨g,o,none⟩:Addr).add j=⟨g,o+j,none⟩:=by cases j<;>simp [Addr.add]
   rw [e];rw [List.getElem?_map,List.getElem?_map] at hu;cases hj:l[j]? with
   | none=>rw [hj] at hu;cases hu
   | some c=>rw [hj] at hu;cases hu;exact h j c hj)
  simpa using this
 rw [run_bytesToString _ _ _ _ _ hl,foldl_push];have hid':(l.map fun c=>(c.toNat:Int)).map (fun n=>UInt8.ofNat n.toNat)=l:=by
  rw [List.map_map];conv=>rhs;rw [←List.map_id l]
  refine List.map_congr_left (fun c _=> ?_);simp
 rw [hid'];simp
theorem hex_tab (n:Nat) (hn:n<16) (h:n<ByteArray.size ⟨#[48,49,50,51,52,53,54,55,56,57,97,98,99,100,101,102,103,104,105,106,107,108,109,110,111,112,113,114,115,116,117,118,119,120,121,122]⟩):(⟨#[48,49,50,51,52,53,54,55,56,57,97,98,99,100,101,102,103,104,105,106,107,108,109,110,111,112,113,114,115,116,117,118,119,120,121,122]⟩:ByteArray)[n]'h=W.hexD n:=by
 have:∀(m:Fin 16) (h:m.val<ByteArray.size ⟨#[48,49,50,51,52,53,54,55,56,57,97,98,99,100,101,102,103,104,105,106,107,108,109,110,111,112,113,114,115,116,117,118,119,120,121,122]⟩),(⟨#[48,49,50,51,52,53,54,55,56,57,97,98,99,100,101,102,103,104,105,106,107,108,109,110,111,112,113,114,115,116,117,118,119,120,121,122]⟩:ByteArray)[m.val]'h=W.hexD m.val:=by decide
 exact this ⟨n,hn⟩ h
theorem bits_lo (n:Nat) (hn:n<16) (w:World) (h:Tz w):Calls Tryz.prog 169 #[.slice none 0 0,.int .u64 n,.int .i64 16,.bool false,.bool false] w fun e w'=>e= .returned (.tuple #[.slice none 0 0,.string ⟨#[W.hexD n]⟩])∧Below w.heap.size w w':=by
 have HT:=hid h;have d0:decide ((16:Int)≤(n:Int))=false:=decide_eq_false (by omega);have d1:decide (16≤n)=false:=decide_eq_false (by omega);have hn0:(0:Int)≤(n:Int):=by omega
 have hn1:(n:Int)<16:=by omega
 have cP:=fun W=>pow2 W
 have cT:=fun W (h:Tz W)=>tz W h
 clear h;go_enter Tryz.func169,Tryz.ntmps169;go_upto_region 7 with fail;obtain ⟨w1,hw1⟩:∃w1,w.alloc (.cells Tryz.zeroCells337 337)=w1:=⟨_,rfl⟩;rw [hw1];have HB1:Hid (Below w.heap.size w w1):=by show Below _ _ _;rw [←hw1];exact (Below.refl _ w).alloc (Nat.le_refl _) _
 have HT1:=hid (HT.out.keep HB1.out);have HV1:Hid (w1.heap[w.heap.size]? =some (.cells Tryz.zeroCells337 337 (0,0))):=by show _=_;rw [←hw1];exact heap_alloc_new w _
 clear hw1;go_wp2_with fail;refine (cP _).mono ?_;rintro e wA ⟨rfl,hw⟩;rw [hw];clear hw;go_wp2_with fail;refine (cT _ HT1.out).mono ?_;rintro e wA ⟨rfl,hw⟩;rw [hw];clear hw;go_wp2_with fail;have z0:w1.cell? ⟨w.heap.size,64,none⟩=some (.int .u8 0):=by rw [Lib.cell_of_heap HV1.out];kernel_rfl
 have z1:=Lib.frozen_of_heap HV1.out 64;go_loopw [1,13] (fun vu vi wr=>vu= .int .u64 n∧vi= .int .i64 65∧wr=w1) (fun _ _ _=>0)
 case atStart=>exact ⟨rfl,rfl,rfl⟩
 case round=>
  obtain ⟨rfl,rfl,hwr⟩:=hrel;rw [hwr];clear hwr;have hH:=hex_tab n hn;have hc:=conv_list (w:=w1.setCell ⟨w.heap.size,64,none⟩ (.int .u8 ((W.hexD n).toNat:Nat))) (g:=w.heap.size) (o:=64) (cap:=1) [W.hexD n] (fun j c hj=>by
   match j,hj with
   | 0,hj=>cases hj;exact World.cell?_setCell_same _ _ _ z0
   | j+1,hj=>simp at hj)
  have HB2:=hid (HB1.out.setCell (p:=⟨w.heap.size,64,none⟩) (Nat.le_refl _) (.int .u8 ((W.hexD n).toNat:Nat)));rw [show ([W.hexD n]:List UInt8).length=1 from rfl] at hc;go_wp2_with fail;go_ret2;exact ⟨rfl,HB2.out⟩
theorem bits_hi (n:Nat) (m:Nat) (hm:m<16) (hn:n=16+m) (w:World) (h:Tz w):Calls Tryz.prog 169 #[.slice none 0 0,.int .u64 n,.int .i64 16,.bool false,.bool false] w fun e w'=>e= .returned (.tuple #[.slice none 0 0,.string ⟨#[W.hexD 1,W.hexD m]⟩])∧Below w.heap.size w w':=by
 have HT:=hid h;have d0:decide ((16:Int)≤(n:Int))=true:=decide_eq_true (by omega);have d1:decide (16≤n)=true:=decide_eq_true (by omega);have hn0:(0:Int)≤(n:Int):=by omega
 have hn1:(n:Int)<32:=by omega
 have hm0:(0:Int)≤(m:Int):=by omega
 have hm1:(m:Int)<16:=by omega
 have a1:bits .and .u64 (n:Int) 15=(m:Int):=by
  have:∀q:Fin 16,bits .and .u64 ((16+q.val:Nat):Int) 15=(q.val:Int):=by decide+kernel
  rw [hn];exact this ⟨m,hm⟩
 have a2:(n:Int) / 16=1:=by omega
 have a3:(n:Int) / 2 ^ 4=1:=by omega
 have a4:n / 16=1:=by omega
 have HN:=hid hn;clear hn;have cP:=fun W=>pow2 W
 have cT:=fun W (h:Tz W)=>tz W h
 clear h;go_enter Tryz.func169,Tryz.ntmps169;go_upto_region 7 with fail;obtain ⟨w1,hw1⟩:∃w1,w.alloc (.cells Tryz.zeroCells337 337)=w1:=⟨_,rfl⟩;rw [hw1];have HB1:Hid (Below w.heap.size w w1):=by show Below _ _ _;rw [←hw1];exact (Below.refl _ w).alloc (Nat.le_refl _) _
 have HT1:=hid (HT.out.keep HB1.out);have HV1:Hid (w1.heap[w.heap.size]? =some (.cells Tryz.zeroCells337 337 (0,0))):=by show _=_;rw [←hw1];exact heap_alloc_new w _
 clear hw1;go_wp2_with fail;refine (cP _).mono ?_;rintro e wA ⟨rfl,hw⟩;rw [hw];clear hw;go_wp2_with fail;refine (cT _ HT1.out).mono ?_;rintro e wA ⟨rfl,hw⟩;rw [hw];clear hw;go_wp2_with fail;have z0:w1.cell? ⟨w.heap.size,64,none⟩=some (.int .u8 0):=by rw [Lib.cell_of_heap HV1.out];kernel_rfl
 have z1:=Lib.frozen_of_heap HV1.out 64;go_loopw [1,13] (fun vu vi wr=>(vu= .int .u64 n∧vi= .int .i64 65∧wr=w1)∨(vu= .int .u64 1∧vi= .int .i64 64∧wr=w1.setCell ⟨w.heap.size,64,none⟩ (.int .u8 ((W.hexD m).toNat:Nat)))) (fun _ vi _=>(intOf vi).toNat)
 case atStart=>exact Or.inl ⟨rfl,rfl,rfl⟩
 case round=>
  have hH:=hex_tab m hm;have hH1:=hex_tab 1 (by decide);rcases hrel with ⟨rfl,rfl,hwr⟩|⟨rfl,rfl,hwr⟩
  · rw [hwr];clear hwr;go_wp2_with fail;go_roundw
    case rel=>first|exact Or.inr ⟨rfl,rfl,rfl⟩|exact Or.inr ⟨rfl,trivial,rfl⟩|exact Or.inr ⟨trivial,rfl,rfl⟩|exact Or.inr ⟨rfl,rfl,trivial⟩| (simp;done)
    case measure=>simp [intOf]
  · have y0:w1.cell? ⟨w.heap.size,63,none⟩=some (.int .u8 0):=by rw [Lib.cell_of_heap HV1.out];kernel_rfl
    have y1:=Lib.frozen_of_heap HV1.out 63;have hv2:=row_set HV1.out 64 (.int .u8 ((W.hexD m).toNat:Nat));have hc:=conv_list (w:=(w1.setCell ⟨w.heap.size,64,none⟩ (.int .u8 ((W.hexD m).toNat:Nat))).setCell ⟨w.heap.size,63,none⟩ (.int .u8 ((W.hexD 1).toNat:Nat))) (g:=w.heap.size) (o:=63) (cap:=2) [W.hexD 1,W.hexD m] (fun j c hj=>by
     match j,hj with
     | 0,hj=>cases hj;exact World.cell?_setCell_same _ _ _ ((World.cell?_setCell_other _ _ _ _ (by simp)).trans y0)
     | 1,hj=>cases hj;exact (World.cell?_setCell_other _ _ _ _ (by simp)).trans (World.cell?_setCell_same _ _ _ z0)
     | j+2,hj=>simp at hj)
    have HB2:=hid ((HB1.out.setCell (p:=⟨w.heap.size,64,none⟩) (Nat.le_refl _) (.int .u8 ((W.hexD m).toNat:Nat))).setCell (p:=⟨w.heap.size,63,none⟩) (Nat.le_refl _) (.int .u8 ((W.hexD 1).toNat:Nat)));rw [show ([W.hexD 1,W.hexD m]:List UInt8).length=2 from rfl] at hc;rw [hwr];clear hwr hv2;go_wp2_with fail;go_ret2;exact ⟨rfl,HB2.out⟩
theorem fmtInt_lo (n:Nat) (hn:n<16) (w:World) (h:Tz w):Calls Tryz.prog 87 #[.int .i64 n,.int .i64 16] w fun e w'=>e= .returned (.string ⟨#[W.hexD n]⟩)∧Below w.heap.size w w':=by
 have cB:=bits_lo n hn w h;have d0:decide ((n:Int)<0)=false:=decide_eq_false (by omega);have hn0:(0:Int)≤(n:Int):=by omega
 have hn1:(n:Int)<16:=by omega
 have e0:IntKind.u64.wrap (n:Int)=(n:Int):=by rw [IntKind.wrap_u64];omega
 obtain ⟨c,hc⟩:∃c,W.hexD n=c:=⟨_,rfl⟩;rw [hc] at cB ⊢;clear h hc;go_enter Tryz.func87,Tryz.ntmps87;go_wp2_with fail;refine cB.mono ?_;rintro e w' ⟨rfl,hb⟩;have HB:=hid hb;clear hb cB;go_wp2_with fail;go_ret;exact ⟨rfl,HB.out⟩
theorem fmtHex_lo (n:Nat) (hn:n<16) (w:World) (h:Tz w):Calls Tryz.prog 45 #[.int .i64 n,.int .i64 16] w fun e w'=>e= .returned (.string ⟨#[W.hexD n]⟩)∧Below w.heap.size w w':=by
 have cB:=fmtInt_lo n hn w h;obtain ⟨c,hc⟩:∃c,W.hexD n=c:=⟨_,rfl⟩;rw [hc] at cB ⊢;clear h hc;go_enter Tryz.func45,Tryz.ntmps45;go_wp2_with fail;refine cB.mono ?_;rintro e w' ⟨rfl,hb⟩;have HB:=hid hb;clear hb cB;go_wp2_with fail;go_ret;exact ⟨rfl,HB.out⟩
theorem fmtInt_hi (n:Nat) (m:Nat) (hm:m<16) (hn:n=16+m) (w:World) (h:Tz w):Calls Tryz.prog 87 #[.int .i64 n,.int .i64 16] w fun e w'=>e= .returned (.string ⟨#[W.hexD 1,W.hexD m]⟩)∧Below w.heap.size w w':=by
 have cB:=bits_hi n m hm hn w h;have d0:decide ((n:Int)<0)=false:=decide_eq_false (by omega);have hn0:(0:Int)≤(n:Int):=by omega
 have hn1:(n:Int)<32:=by omega
 have e0:IntKind.u64.wrap (n:Int)=(n:Int):=by rw [IntKind.wrap_u64];omega
 obtain ⟨c,hc⟩:∃c,W.hexD m=c:=⟨_,rfl⟩;rw [hc] at cB ⊢;clear h hc hn;go_enter Tryz.func87,Tryz.ntmps87;go_wp2_with fail;refine cB.mono ?_;rintro e w' ⟨rfl,hb⟩;have HB:=hid hb;clear hb cB;go_wp2_with fail;go_ret;exact ⟨rfl,HB.out⟩
theorem fmtHex_hi (n:Nat) (m:Nat) (hm:m<16) (hn:n=16+m) (w:World) (h:Tz w):Calls Tryz.prog 45 #[.int .i64 n,.int .i64 16] w fun e w'=>e= .returned (.string ⟨#[W.hexD 1,W.hexD m]⟩)∧Below w.heap.size w w':=by
 have cB:=fmtInt_hi n m hm hn w h;obtain ⟨c,hc⟩:∃c,W.hexD m=c:=⟨_,rfl⟩;rw [hc] at cB ⊢;clear h hc hn;go_enter Tryz.func45,Tryz.ntmps45;go_wp2_with fail;refine cB.mono ?_;rintro e w' ⟨rfl,hb⟩;have HB:=hid hb;clear hb cB;go_wp2_with fail;go_ret;exact ⟨rfl,HB.out⟩
theorem sizeBuilder:(Tryz.prog.info? 68).map (·.size)=some 2:=by kernel_rfl
theorem liesBuilder:liesAt Tryz.prog Tryz.prog.depth 68 (2 / Tryz.prog.cellsOf 68) 0 68 1=true:=by kernel_rfl
theorem copyCheck_used (b:Nat) (w:World) (h0:w.cell? ⟨b,0,none⟩=some (.pointer (some ⟨b,0,none⟩))):
  Calls Tryz.prog 85 #[.pointer (some ⟨b,0,none⟩)] w fun e w'=>e= .returned (.tuple #[])∧w'=w:=by
 obtain ⟨j,hj,_⟩:=Option.map_eq_some_iff.1 sizeBuilder;go_enter Tryz.func85,Tryz.ntmps85;go_wp2;rw [Lib.run_neq_ptr_same w _ Tryz.underlying65 hj];go_wp2;go_end0;exact ⟨rfl,rfl⟩
theorem copyCheck_fresh (b:Nat) (w:World) (h0:w.cell? ⟨b,0,none⟩=some (.pointer none)) (hsh:w.shape? b=some (68,2)) (hfz:w.frozen? ⟨b,0,none⟩=false):
  Calls Tryz.prog 85 #[.pointer (some ⟨b,0,none⟩)] w fun e w'=>e= .returned (.tuple #[])∧w'=w.setCell ⟨b,0,none⟩ (.pointer (some ⟨b,0,none⟩)):=by
 obtain ⟨j,hj,hjs⟩:=Option.map_eq_some_iff.1 sizeBuilder;go_enter Tryz.func85,Tryz.ntmps85;go_wp2;rw [Lib.run_to_unsafe w ⟨b,0,none⟩ Tryz.underlying65 Tryz.underlying253 hj (by rw [hjs];decide) hsh (Nat.zero_lt_succ 1)];simp only [Result.andThen];rw [Oper.upon_value];go_wp2;rw [run_callFunc_extern Tryz.func165 (by kernel_rfl) (by kernel_rfl) (by kernel_rfl) (e:=Extern.AbiNoEscape.same) (by kernel_rfl)];rw [Lib.run_noEscape];simp only [Result.andThen];rw [Oper.upon_value];go_wp2;rw [Lib.run_from_unsafe w ⟨b,0,none⟩ Tryz.underlying253 Tryz.underlying65 hj hsh liesBuilder];simp only [Result.andThen];rw [Oper.upon_value];go_wp2;go_end0;exact ⟨rfl,rfl⟩
def Holds (B b:Nat) (l:List UInt8) (w:World):Prop:=Lib.IsBuilderF 68 5 B b (Lib.byteCells l) w
def Kept (b:Nat) (w w':World):Prop:=Lib.OthersKept 5 (some b) w w'
theorem copyCheck_any (B b:Nat) (bs:List Value) (w:World) (h:Lib.IsBuilderF 68 5 B b bs w):
   Calls Tryz.prog 85 #[.pointer (some ⟨b,0,none⟩)] w fun e w'=>e= .returned (.tuple #[])∧(Lib.BuilderAtF 68 5 B b (.pointer (some ⟨b,0,none⟩)) bs w'∧Below B w w'∧Kept b w w'):=by
 rcases h with h|h
 · refine (copyCheck_fresh b w h.cell0 h.shape h.frozen0).mono ?_;rintro e w' ⟨rfl,rfl⟩;exact ⟨rfl,h.used _,(Below.refl B w).setCell (p:=⟨b,0,none⟩) h.1 _,(Lib.OthersKept.refl _ _ w).setCell ⟨b,0,none⟩ rfl _⟩
 · refine (copyCheck_used b w h.cell0).mono ?_;rintro e w' ⟨rfl,rfl⟩;exact ⟨rfl,h,Below.refl B _,Lib.OthersKept.refl _ _ _⟩
theorem writeByte_cells (B b:Nat) (bs:List Value) (c:Int) (w:World) (h:Lib.IsBuilderF 68 5 B b bs w) (hlen:bs.length+1≤140737488355328) (hBw:B≤w.heap.size):
   Calls Tryz.prog 47 #[.pointer (some ⟨b,0,none⟩),.int .u8 c] w fun e w'=>e= .returned .nilIface∧(Lib.BuilderAtF 68 5 B b (.pointer (some ⟨b,0,none⟩)) (bs++ [.int .u8 c]) w'∧Below B w w'∧Kept b w w'):=by
 obtain ⟨i0,hi,hz0,hz1,hz2⟩:=info_parts infoByte;go_enter Tryz.func47,Tryz.ntmps47;go_wp2_with (go_at_call 85;refine (copyCheck_any B b bs _ h).mono ?_);rintro e w1 ⟨rfl,h1,hb1,hk1⟩;obtain ⟨hB,v,hbk,hown,hne⟩:=h1;have c0:w1.cell? ⟨b,0,none⟩=some (.pointer (some ⟨b,0,none⟩)):=by rw [Lib.cell_of_heap hbk];rfl
 have c1:w1.cell? ⟨b,1,none⟩=some v:=by rw [Lib.cell_of_heap hbk];rfl
 go_wp2_with (at_builtin;refine wpList_append_ownF _ rfl _ _ 66 rfl B 5 i0 (.int .u8 0) 1 1 Tryz.underlying66 hi hz0 hz1 hz2 rfl (by decide) _ _ _ rfl (hown.alloc _) ⟨w1.heap.size,0,none⟩ 1 1 [.int .u8 c] rfl rfl ?c1 ?c2 ?c3 ?c4 ?c5 ?_)
 case c1=>
   intro j u hj;match j,hj with
   | 0,hj=>simp at hj;subst hj;simp [Addr.add]
 case c2=>intro u hu;simp at hu;subst hu;rfl
 case c3=>unfold maxLen;omega
 case c4=>omega
 case c5=>have:=hb1.size;simp;omega
 intro v' w2 hown' hgrow _;have hlt:b<w1.heap.size:=by
   rcases Nat.lt_or_ge b w1.heap.size with h'|h'
   · exact h'
   · simp [Array.getElem?_eq_none h'] at hbk
 have hb2:w2.heap[b]? =some (.cells #[.pointer (some ⟨b,0,none⟩),v] 68 (0,0)):=by
   rw [hgrow.block b (by simp;omega) (fun e=>hne e.symm),Lib.alloc_old w1 _ b hlt];exact hbk
 have d0:w2.cell? ⟨b,0,none⟩=some (.pointer (some ⟨b,0,none⟩)):=by rw [Lib.cell_of_heap hb2];rfl
 have d1:w2.cell? ⟨b,1,none⟩=some v:=by rw [Lib.cell_of_heap hb2];rfl
 have f1:w2.frozen? ⟨b,1,none⟩=false:=Lib.frozen_of_heap hb2 1;obtain ⟨g,cap,rfl⟩:∃g cap,v'= .slice (some ⟨g,0,none⟩) (bs.length+1) cap:=by
   rcases hown'.2 with ⟨_,h0⟩|⟨g,cap,cur,fz,hv,_⟩
   · omega
   · exact ⟨g,cap,hv⟩
 go_wp2;go_ret;refine ⟨rfl,?_,?_,((hk1.alloc _).grown hgrow (Lib.ownsRowF_kind (hown.alloc _))).setCell ⟨b,1,none⟩ rfl _⟩
 · exact Lib.BuilderAtF.put (T:=68) (e:=5) hB hb2 (bs':=bs++ [.int .u8 c]) (by simpa using hown') (by decide)
 · exact ((hb1.alloc (by have:=hb1.size;omega) _).grown hgrow (by have:=hb1.size;simp;omega) (fun k hk=>(hown.lt k hk).1)).setCell (p:=⟨b,1,none⟩) hB _
theorem writeString_cells (B b:Nat) (bs:List Value) (s:ByteArray) (w:World) (h:Lib.IsBuilderF 68 5 B b bs w) (hlen:bs.length+s.size≤140737488355328) (hBw:B≤w.heap.size):
   Calls Tryz.prog 43 #[.pointer (some ⟨b,0,none⟩),.string s] w fun e w'=>e= .returned (.tuple #[.int .i64 s.size,.nilIface])∧(Lib.BuilderAtF 68 5 B b (.pointer (some ⟨b,0,none⟩)) (bs++Lib.strCells s) w'∧Below B w w'∧Kept b w w'):=by
 obtain ⟨i0,hi,hz0,hz1,hz2⟩:=info_parts infoByte;go_enter Tryz.func43,Tryz.ntmps43;go_wp2_with (go_at_call 85;refine (copyCheck_any B b bs _ h).mono ?_);rintro e w1 ⟨rfl,h1,hb1,hk1⟩;obtain ⟨hB,v,hbk,hown,hne⟩:=h1;have c0:w1.cell? ⟨b,0,none⟩=some (.pointer (some ⟨b,0,none⟩)):=by rw [Lib.cell_of_heap hbk];rfl
 have c1:w1.cell? ⟨b,1,none⟩=some v:=by rw [Lib.cell_of_heap hbk];rfl
 go_wp2_with (at_builtin;refine Lib.wpList_append_own_stringF _ rfl _ _ 66 9 rfl B 5 i0 Tryz.underlying66 Tryz.underlying9 hi hz0 hz1 hz2 _ _ _ rfl hown s rfl ?c3 ?c4 ?c5 ?_)
 case c3=>unfold maxLen;omega
 case c4=>omega
 case c5=>have:=hb1.size;omega
 intro v' w2 hown' hgrow _;have hlt:b<w1.heap.size:=by
   rcases Nat.lt_or_ge b w1.heap.size with h'|h'
   · exact h'
   · simp [Array.getElem?_eq_none h'] at hbk
 have hb2:w2.heap[b]? =some (.cells #[.pointer (some ⟨b,0,none⟩),v] 68 (0,0)):=by
   rw [hgrow.block b hlt (fun e=>hne e.symm)];exact hbk
 have d0:w2.cell? ⟨b,0,none⟩=some (.pointer (some ⟨b,0,none⟩)):=by rw [Lib.cell_of_heap hb2];rfl
 have d1:w2.cell? ⟨b,1,none⟩=some v:=by rw [Lib.cell_of_heap hb2];rfl
 have f1:w2.frozen? ⟨b,1,none⟩=false:=Lib.frozen_of_heap hb2 1;obtain ⟨ao,n',cap,rfl⟩:∃ao n' cap,v'= .slice ao n' cap:=by
   rcases hown'.2 with ⟨hv,_⟩|⟨g,cap,cur,fz,hv,_⟩
   · exact ⟨_,_,_,hv⟩
   · exact ⟨_,_,_,hv⟩
 go_wp2;go_ret2;refine ⟨rfl,?_,?_,(hk1.grown hgrow (Lib.ownsRowF_kind hown)).setCell ⟨b,1,none⟩ rfl _⟩
 · exact Lib.BuilderAtF.put (T:=68) (e:=5) hB hb2 (bs':=bs++Lib.strCells s) (by simpa [Lib.strCells_length] using hown') (by decide)
 · exact (hb1.grown hgrow (by have:=hb1.size;omega) (fun k hk=>(hown.lt k hk).1)).setCell (p:=⟨b,1,none⟩) hB _
theorem writeByte_any (B b:Nat) (l:List UInt8) (c:UInt8) (w:World) (h:Holds B b l w) (hlen:l.length+1≤140737488355328) (hBw:B≤w.heap.size):
  Calls Tryz.prog 47 #[.pointer (some ⟨b,0,none⟩),.int .u8 c.toNat] w fun e w'=>e= .returned .nilIface∧Holds B b (l++ [c]) w'∧Below B w w'∧Kept b w w':=by
 refine (writeByte_cells B b _ c.toNat w h (by rw [Lib.byteCells_length];exact hlen) hBw).mono ?_;rintro e w' ⟨rfl,h1,h2,h3⟩;refine ⟨rfl,Or.inr ?_,h2,h3⟩;rw [Lib.byteCells_append];exact h1
theorem writeString_any (B b:Nat) (l:List UInt8) (s:ByteArray) (w:World) (h:Holds B b l w) (hlen:l.length+s.size≤140737488355328) (hBw:B≤w.heap.size):
  Calls Tryz.prog 43 #[.pointer (some ⟨b,0,none⟩),.string s] w fun e w'=>e= .returned (.tuple #[.int .i64 s.size,.nilIface])∧Holds B b (l++s.data.toList) w'∧Below B w w'∧Kept b w w':=by
 refine (writeString_cells B b _ s w h (by rw [Lib.byteCells_length];exact hlen) hBw).mono ?_;rintro e w' ⟨rfl,h1,h2,h3⟩;refine ⟨rfl,Or.inr ?_,h2,h3⟩;rw [Lib.byteCells_append];exact h1
theorem string_any (B b:Nat) (l:List UInt8) (w:World) (h:Holds B b l w) (hBw:B≤w.heap.size):
  Calls Tryz.prog 14 #[.pointer (some ⟨b,0,none⟩)] w fun e w'=>e= .returned (.string ⟨l.toArray⟩)∧Holds B b l w'∧Below B w w'∧Kept b w w':=
 Tryz.Builder_String_any_k B b l w h hBw
theorem holds_fresh (w:World):Holds w.heap.size w.heap.size [] (w.alloc (.cells #[.pointer none,.slice none 0 0] 68)):=Lib.IsBuilderF.of (Lib.fresh_isBuilder _ _ w)
open Go.RowKit Go.Lib
namespace W
theorem ofNat_congr {a b:Nat}(h:a=b):UInt8.ofNat a=UInt8.ofNat b:=by rw [h]
theorem charL_1 (c:Int) (h0:0≤c) (h1:c≤127):charL c= [UInt8.ofNat c.toNat]:=by
 unfold charL charN charB;rw [if_pos (by simp [charOk];omega),if_pos (by omega)];rfl
theorem charL_2 (c:Int) (h0:128≤c) (h1:c≤2047):charL c= [UInt8.ofNat (192+c / 64).toNat,UInt8.ofNat (128+c % 64).toNat]:=by
 unfold charL charN charB;rw [if_pos (by simp [charOk];omega),if_neg (by omega),if_pos (by omega)];simp only [List.map_cons,List.map_nil];rw [ofNat_congr (show 192+c.toNat / 64=(192+c / 64).toNat by omega),ofNat_congr (show 128+c.toNat % 64=(128+c % 64).toNat by omega)]
theorem charL_3 (c:Int) (h0:2048≤c) (h1:c≤65535) (h:charOk c=true):charL c= [UInt8.ofNat (224+c / 4096).toNat,UInt8.ofNat (128+c / 64 % 64).toNat,UInt8.ofNat (128+c % 64).toNat]:=by
 unfold charL charN charB;rw [if_pos h,if_neg (by omega),if_neg (by omega),if_pos (by omega)];simp only [List.map_cons,List.map_nil];rw [ofNat_congr (show 224+c.toNat / 4096=(224+c / 4096).toNat by omega),ofNat_congr (show 128+c.toNat / 64 % 64=(128+c / 64 % 64).toNat by omega),ofNat_congr (show 128+c.toNat % 64=(128+c % 64).toNat by omega)]
theorem charL_4 (c:Int) (h0:65536≤c) (h1:c≤1114111):charL c= [UInt8.ofNat (240+c / 262144).toNat,UInt8.ofNat (128+c / 4096 % 64).toNat,UInt8.ofNat (128+c / 64 % 64).toNat,UInt8.ofNat (128+c % 64).toNat]:=by
 unfold charL charN charB;rw [if_pos (by simp [charOk];omega),if_neg (by omega),if_neg (by omega),if_neg (by omega)];simp only [List.map_cons,List.map_nil];rw [ofNat_congr (show 240+c.toNat / 262144=(240+c / 262144).toNat by omega),ofNat_congr (show 128+c.toNat / 4096 % 64=(128+c / 4096 % 64).toNat by omega),ofNat_congr (show 128+c.toNat / 64 % 64=(128+c / 64 % 64).toNat by omega),ofNat_congr (show 128+c.toNat % 64=(128+c % 64).toNat by omega)]
theorem extract_eq (s:ByteArray) (n k:Nat):s.extract n (n+k)=⟨((s.data.toList.drop n).take k).toArray⟩:=by
 have:=ByteArray.extract_mk s.data.toList n (n+k);rw [show (⟨s.data.toList.toArray⟩:ByteArray)=s from rfl,show n+k-n=k by omega] at this;exact this
theorem list_beq (l m:List UInt8):(l==m)=decide (l=m):=by
 by_cases h:l=m
 · subst h;simp
 · rw [decide_eq_false h,beq_eq_false_iff_ne];exact h
end W
open Go.Lib (hid decodeL validD)
namespace W
theorem refW_le (b:Nat):refW b≤4:=by
 unfold refW;by_cases a4:240≤b
 · rw [if_pos a4];omega
 · rw [if_neg a4];by_cases a3:224≤b
   · rw [if_pos a3];omega
   · rw [if_neg a3];by_cases a2:192≤b
     · rw [if_pos a2];omega
     · rw [if_neg a2];omega
theorem head_cases (l:List UInt8) (hl:0<l.length):(headD l=(0,0,false)∧validD l=false)∨∃c k:Nat,headD l=((c:Int),(k:Int),true)∧1≤k∧k≤4∧k≤l.length∧validD l=validD (l.drop k)∧c≤1114111:=by
 have hne:l≠ []:=by intro e;subst e;simp at hl
 have hs:=Lib.validD_step l hne;by_cases h:(decodeL l).1=65533∧(decodeL l).2=1
 · left;refine ⟨by unfold headD;rw [if_pos h],by rw [hs,if_pos h]⟩
 · right;have hd:headD l=(((decodeL l).1:Int),((decodeL l).2:Int),true):=by unfold headD;rw [if_neg h]
   have hw:(decodeL l).2≤l.length∧(decodeL l).2≤4:=by
    have hr:=refD_head l hl;rw [hd] at hr;unfold refD at hr;have h4:=refW_le (l.getD 0 0).toNat;generalize refW (l.getD 0 0).toNat=w at hr h4;simp only at hr;split at hr
    · simp at hr
    · split at hr
      · simp only [Prod.mk.injEq] at hr;omega
      · simp at hr
   exact ⟨_,_,hd,Lib.decodeL_width l,hw.2,hw.1,by rw [hs,if_neg h],Lib.decodeL_rune l⟩
end W
theorem validRune_ok (c:Int):Lib.validRune c=W.charOk c:=by
 unfold Lib.validRune W.charOk;rw [Bool.eq_iff_iff];simp only [Bool.or_eq_true,decide_eq_true_eq];omega
theorem encode_charL (c:Int) (hok:W.charOk c=true):Utf8.encode c=⟨(W.charL c).toArray⟩:=by
 have h0:0≤c:=by
  simp only [W.charOk,Bool.or_eq_true,decide_eq_true_eq] at hok;omega
 obtain ⟨n,rfl⟩:=Int.eq_ofNat_of_zero_le h0;have e:W.charL (n:Int)=(Utf8.encode (n:Int)).data.toList:=by
  unfold W.charL;rw [if_pos hok,Int.toNat_natCast];exact (W.charN_encode n hok).symm
 obtain ⟨b,hb⟩:∃b,Utf8.encode (n:Int)=b:=⟨_,rfl⟩;rw [hb] at e ⊢;obtain ⟨l,hl⟩:∃l,W.charL (n:Int)=l:=⟨_,rfl⟩;rw [hl] at e ⊢;subst e;exact ByteArray.ext (by simp)
namespace W
theorem decodeGo_drop (s:ByteArray) (n:Nat) (h:n<s.size):Lib.decodeGo (s.extract n s.size)=Lib.decodeL (s.data.toList.drop n):=by
 have e:s.extract n s.size=⟨(s.data.toList.drop n).toArray⟩:=by
  have:=W.extract_eq s n (s.size-n);rw [show n+(s.size-n)=s.size by omega] at this;rw [this,List.take_of_length_le (by simp)]
 unfold Lib.decodeGo Lib.decodeL;rw [if_neg (by rw [ByteArray.size_extract];omega),e]
end W
theorem enc_last {r:Int}(h:128≤r) (hok:W.charOk r=true):∃(b:ByteArray) (l:Nat) (hl:l<b.size),Utf8.encode r=b∧b.size=l+1∧1≤l∧l≤3∧128≤(b[l]'hl).toNat:=by
 rw [encode_charL r hok];have hm:128≤(UInt8.ofNat (128+r % 64).toNat).toNat:=by
   have h1:(128+r % 64).toNat<256:=by omega
   rw [UInt8.toNat_ofNat_of_lt' h1];omega
 by_cases h2:r≤2047
 · rw [W.charL_2 r h h2];exact ⟨_,1,by show 1<2;omega,rfl,rfl,by omega,by omega,hm⟩
 · by_cases h3:r≤65535
   · rw [W.charL_3 r (by omega) h3 hok];exact ⟨_,2,by show 2<3;omega,rfl,rfl,by omega,by omega,hm⟩
   · have h4:r≤1114111:=by simp only [W.charOk,Bool.or_eq_true,decide_eq_true_eq] at hok;omega
     rw [W.charL_4 r (by omega) h4];exact ⟨_,3,by show 3<4;omega,rfl,rfl,by omega,by omega,hm⟩
theorem encodeRune_charL {r:Int}(hok:W.charOk r=true):Lib.encodeRune r=W.charL r:=by
 have h0:(0≤r∧r≤55295)∨(57344≤r∧r≤1114111):=by simpa only [W.charOk,Bool.or_eq_true,decide_eq_true_eq] using hok
 unfold Lib.encodeRune;by_cases h1:r≤127
 · rw [Lib.encodeRuneZ_one (by omega) h1,W.charL_1 r (by omega) h1];rfl
 · by_cases h2:r≤2047
   · rw [Lib.encodeRuneZ_two (by omega) h2,W.charL_2 r (by omega) h2];rfl
   · by_cases h3:r≤65535
     · rw [Lib.encodeRuneZ_three (by omega),W.charL_3 r (by omega) h3 hok];rfl
     · rw [Lib.encodeRuneZ_four (by omega) (by omega),W.charL_4 r (by omega) (by omega)];rfl
theorem writeRune_cells (B b:Nat) (bs:List Value) (r:Int) (hr0: -2147483648≤r) (hr1:r≤2147483647) (w:World) (h:Lib.IsBuilderF 68 5 B b bs w) (hlen:bs.length+4≤140737488355328) (hBw:B≤w.heap.size):
   Calls Tryz.prog 89 #[.pointer (some ⟨b,0,none⟩),.int .i32 r] w fun e w'=>e= .returned (.tuple #[.int .i64 (Lib.runeCells r).length,.nilIface])∧(Lib.BuilderAtF 68 5 B b (.pointer (some ⟨b,0,none⟩)) (bs++Lib.runeCells r) w'∧Below B w w'∧Kept b w w'):=by
 have hk4:=Lib.runeCells_le r;go_enter Tryz.func89,Tryz.ntmps89;go_wp2_with (go_at_call 85;refine (copyCheck_any B b bs _ h).mono ?_);rintro e w1 ⟨rfl,h1,hb1,hk1⟩;obtain ⟨hB,v,hbk,hown,hne⟩:=h1;obtain ⟨ao,cap,rfl⟩:∃ao cap,v= .slice ao bs.length cap:=by
   rcases hown.2 with ⟨hv,h0⟩|⟨g,cap,cur,fz,hv,_⟩
   · exact ⟨none,0,by rw [hv,h0]⟩
   · exact ⟨_,_,hv⟩
 have c0:w1.cell? ⟨b,0,none⟩=some (.pointer (some ⟨b,0,none⟩)):=by rw [Lib.cell_of_heap hbk];rfl
 have c1:w1.cell? ⟨b,1,none⟩=some (.slice ao bs.length cap):=by rw [Lib.cell_of_heap hbk];rfl
 go_wp2_with (go_at_call 174;refine (Tryz.utf8_AppendRune_row B _ bs.length bs r hr0 hr1 _ hown hlen (by have:=hb1.size;omega)).mono ?_);rintro e w2 ⟨v',rfl,hown',o,hgrow⟩;have hlt:b<w1.heap.size:=by
   rcases Nat.lt_or_ge b w1.heap.size with h'|h'
   · exact h'
   · simp [Array.getElem?_eq_none h'] at hbk
 have hb2:w2.heap[b]? =some (.cells #[.pointer (some ⟨b,0,none⟩),.slice ao bs.length cap] 68 (0,0)):=by
   rw [hgrow.block b (by simp;omega) (fun e=>hne e.symm),Lib.alloc_old w1 _ b hlt];exact hbk
 have d0:w2.cell? ⟨b,0,none⟩=some (.pointer (some ⟨b,0,none⟩)):=by rw [Lib.cell_of_heap hb2];rfl
 have d1:w2.cell? ⟨b,1,none⟩=some (.slice ao bs.length cap):=by rw [Lib.cell_of_heap hb2];rfl
 have f1:w2.frozen? ⟨b,1,none⟩=false:=Lib.frozen_of_heap hb2 1;obtain ⟨g,cap',rfl⟩:∃g cap',v'= .slice (some ⟨g,0,none⟩) (bs.length+(Lib.runeCells r).length) cap':=by
   rcases hown'.2 with ⟨_,h0⟩|⟨g,cap',cur,fz,hv,_⟩
   · omega
   · exact ⟨g,cap',hv⟩
 go_wp2;go_ret2;refine ⟨?_,?_,?_,((hk1.alloc _).grown hgrow (Lib.ownsRowF_kind (hown.alloc _))).setCell ⟨b,1,none⟩ rfl _⟩
 · have e:((bs.length:Int)+((Lib.runeCells r).length:Int)-(bs.length:Int))=((Lib.runeCells r).length:Int):=by omega
   simp [e]
 · exact Lib.BuilderAtF.put (T:=68) (e:=5) hB hb2 (bs':=bs++Lib.runeCells r) (by simpa using hown') (by decide)
 · exact ((hb1.alloc (by have:=hb1.size;omega) _).grown hgrow (by have:=hb1.size;simp;omega) (fun k hk=>(hown.lt k hk).1)).setCell (p:=⟨b,1,none⟩) hB _
theorem writeRune_any (B b:Nat) (l:List UInt8) (r:Int) (hok:W.charOk r=true) (w:World) (h:Holds B b l w) (hlen:l.length+4≤140737488355328) (hBw:B≤w.heap.size):
  Calls Tryz.prog 89 #[.pointer (some ⟨b,0,none⟩),.int .i32 r] w fun e w'=>(∃n:Int,e= .returned (.tuple #[.int .i64 n,.nilIface]))∧Holds B b (l++W.charL r) w'∧Below B w w'∧Kept b w w':=by
 have h0:(0≤r∧r≤55295)∨(57344≤r∧r≤1114111):=by simpa only [W.charOk,Bool.or_eq_true,decide_eq_true_eq] using hok
 refine (writeRune_cells B b _ r (by omega) (by omega) w h (by rw [Lib.byteCells_length];exact hlen) hBw).mono ?_;rintro e w' ⟨rfl,h1,h2,h3⟩;refine ⟨⟨_,rfl⟩,Or.inr ?_,h2,h3⟩;rw [Lib.byteCells_append,←encodeRune_charL hok,Lib.byteCells_encodeRune];exact h1
theorem atF_grown {T e:TypeId}{B b R:Nat}{p:Value}{bs:List Value}{W W':World}(h:Lib.BuilderAtF T e B b p bs W) (hg:W.grownBy W' (some R)) (hR:R<B):Lib.BuilderAtF T e B b p bs W':=by
 have hlt:=h.lt;obtain ⟨hB,v,hv,hown,hne⟩:=h;exact ⟨hB,v,(hg.block b hlt (fun e=>by have:=Option.some.inj e;omega)).trans hv,hown.kept hg (Or.inr fun e=>by have:=(hown.lt R e).1;omega),hne⟩
theorem Holds.grown {B b R:Nat}{l:List UInt8}{W W':World}(h:Holds B b l W) (hg:W.grownBy W' (some R)) (hR:R<B):Holds B b l W':=h.elim (fun x=> .inl (atF_grown x hg hR)) (fun x=> .inr (atF_grown x hg hR))
theorem Holds.lt {B b:Nat}{l:List UInt8}{w:World}(h:Holds B b l w):b<w.heap.size:=by
 rcases h with h|h
 · exact h.lt
 · exact h.lt
theorem atF_after {T e:TypeId}{B b:Nat}{p:Value}{bs:List Value}{W W':World}(h:Lib.BuilderAtF T e B b p bs W) (hb:Below W.heap.size W W'):Lib.BuilderAtF T e B b p bs W':=by
 have hlt:=h.lt;obtain ⟨hB,v,hv,hown,hne⟩:=h;exact ⟨hB,v,(hb.block b hlt).trans hv,hown.kept (row:=none) ⟨hb.os,hb.tape,hb.output,hb.size,fun k hk _=>hb.block k hk⟩ (Classical.em _),hne⟩
theorem Holds.after {B b:Nat}{l:List UInt8}{w w':World}(h:Holds B b l w) (hb:Below w.heap.size w w'):Holds B b l w':=h.elim (fun x=> .inl (atF_after x hb)) (fun x=> .inr (atF_after x hb))
theorem Holds.bw {B b:Nat}{l:List UInt8}{w:World}(h:Holds B b l w):B≤w.heap.size:=by
 have h1:=h.lt;rcases h with h|h
 · have:=h.1;omega
 · have:=h.1;omega
def Asc (s:ByteArray):Prop:= ∀(j:Nat) b,s.data.toList[j]? =some b→b.toNat<128
theorem Asc.at {s:ByteArray}(h:Asc s) {i:Nat}(hi:i<s.size):s[i].toNat<128:=h i _ (Lib.data_getElem? s i hi)
theorem index_high {s:ByteArray}(h:Asc s) {l:List UInt8}(hl:∃k,l=s.data.toList.drop k) {c:UInt8}(hc:128≤c.toNat):Lib.indexByte l c= -1:=by
 have hge:=Lib.indexByte_ge l c;by_cases h0:Lib.indexByte l c<0
 · omega
 · obtain ⟨o,ho⟩:=Int.eq_ofNat_of_zero_le (Int.not_lt.1 h0);have h1:=(Lib.indexByte_some ho).1;obtain ⟨k,rfl⟩:=hl;rw [List.getElem?_drop] at h1;have:=h _ _ h1;omega
theorem Below.iter (w:World) (s:ByteArray) (i:Nat):Below w.heap.size w (w.iter s i):=(Below.refl _ w).alloc (Nat.le_refl _) _
theorem indexRune_high (s:ByteArray) (hA:Asc s) (_hs:s.size≤1000) (r:Int) (h0:128≤r) (h1:r≤2147483647) (w:World):
   Calls Tryz.prog 88 #[.string s,.int .i32 r] w fun e w'=>e= .returned (.int .i64 (-1))∧Below w.heap.size w w':=by
 have HA:=hid hA;clear hA;have t0:decide ((0:Int)≤r)=true:=by simp;omega
 have t1:decide (r<128)=false:=by simp;omega
 by_cases he:r=65533
 · subst he;clear t0 t1 h0 h1;go_enter Tryz.func88,Tryz.ntmps88;go_wp2_with fail;go_loopg [] s.size (fun g wx=> ∃i:Nat,i+g=s.size∧wx=w.iter s i)
   case atStart=>exact ⟨0,by omega,rfl⟩
   case round=>
     obtain ⟨i,hig,rfl⟩:=hrel;cases gk with
     | zero=>
       obtain rfl:i=s.size:=by omega
       have hnx:=run_next_end (P:=Tryz.prog) w s s.size;go_wp2_with fail;go_ret;exact ⟨rfl,Below.iter w s _⟩
     | succ g=>
       have hi:i<s.size:=by omega
       have hx:=HA.out.at hi;have hnx:=fun ty=>run_next_ascii (P:=Tryz.prog) w s i ty hi hx
       have t2:((s[i].toNat:Int)==65533)=false:=beq_eq_false_iff_ne.2 (by omega);clear hx;go_wp2_with fail;go_roundg g
       case measure=>omega
       case rel=>exact ⟨i+1,by omega,rfl⟩
 · have t2:(r==65533)=false:=beq_eq_false_iff_ne.2 he;have hv:=validRune_ok r;cases hok:W.charOk r
   · rw [hok] at hv;clear hok he;go_enter Tryz.func88,Tryz.ntmps88;go_wp2_with fail;refine (Tryz.utf8_ValidRune _ _).mono ?_;rintro e w' ⟨rfl,hw'⟩;rw [hw'];rw [hv];go_wp2_with fail;go_ret;exact ⟨rfl,Below.refl _ _⟩
   · rw [hok] at hv;obtain ⟨b,l,hl,hb,hbs,l1,l3,hb8⟩:=enc_last h0 hok;have HB:=hid hb8;have e1:(b.size:Int)-1=(l:Int):=by omega
     have e3:(l:Int)+1=((l+1:Nat):Int):=by omega
     have L0:(0:Int)≤(l:Int):=by omega
     have L1:(l:Int)<(b.size:Int):=by omega
     clear hok he hb8 hbs;go_enter Tryz.func88,Tryz.ntmps88;go_wp2_with fail;refine (Tryz.utf8_ValidRune _ _).mono ?_;rintro e w' ⟨rfl,hw'⟩;rw [hw'];rw [hv];go_wp2_with fail;go_step3;go_wp2_with fail;go_loop [9] (fun v=>v= .int .i64 l) (fun _=>1)
     case atStart=>exact rfl
     case round=>
       obtain rfl:=hrel;by_cases hls:l<s.size
       · have t3:decide ((l:Int)<(s.size:Int))=true:=by simp;omega
         have L2:(l:Int)<(s.size:Int):=by omega
         obtain ⟨m,hm⟩:∃m,l+1=m:=⟨_,rfl⟩;have L3:(l:Int)+1=(m:Int):=by omega
         have L4:IntKind.i64.wrap (m:Int)=(m:Int):=by rw [IntKind.wrap_i64];omega
         have L5:(0:Int)≤(m:Int):=by omega
         have L6:(m:Int)≤(s.size:Int):=by omega
         have t4:((s[l].toNat:Int) !=(b[l].toNat:Int))=true:=by
          rw [bne_iff_ne];have:=HA.out.at hls;have:=HB.out;omega
         have HX:=hid (index_high (l:=(s.extract m s.size).data.toList) HA.out ⟨m,Lib.extract_to_end s m⟩ (c:=b[l]) HB.out);have cI:=fun W=>Tryz.strings_IndexByte (s.extract m s.size) (b[l].toNat:Int) W
         have e4:((b[l].toNat:Int)).toNat.toUInt8=b[l]:=by simp
         rw [e4,HX.out] at cI;clear HX e4 hm e3;go_wp2_with fail;go_step3;go_wp2_with fail;go_quiet (fail);go_wp2_with fail;go_quiet (first| (go_at_call 170;exact (cI _).mono (fun _ _ h=>⟨h.1,_,h.2⟩)));go_wp2_with fail;(repeat (first|rw [Exit.noGoto_ret]|simp only [Exit.inBlock]))
         go_big_unhide
         (repeat (first|rw [Exit.noGoto_ret]|simp only [Exit.inBlock,Exit.then]))
         go_ret;exact ⟨rfl,below_drewN (Below.refl _ w) _⟩
       · have t3:decide ((l:Int)<(s.size:Int))=false:=by simp;omega
         go_wp2_with fail;go_ret;exact ⟨rfl,Below.refl _ _⟩
def Any4 (s cs:ByteArray) (v:Int):Prop:=v= -1∨(∃(i:Nat) (h:i<s.size),v=(i:Int)∧s[i]∈cs.data.toList)
theorem indexAny_short (s cs:ByteArray) (hA:Asc cs) (h2:2≤cs.size) (hc:cs.size≤1000) (h8:s.size≤8) (w:World):
  Calls Tryz.prog 323 #[.string s,.string cs] w fun e w'=>(∃v:Int,e= .returned (.int .i64 v)∧Any4 s cs v)∧Below w.heap.size w w':=by
 have hemp:cs.toList.isEmpty=false:=by
  rw [Lib.toList_data];cases h:cs.data.toList with
  | nil=>have:=Lib.size_eq cs;rw [h,List.length_nil] at this;omega
  | cons _ _=>rfl
 have hn1:((cs.size:Int)==1)=false:=beq_eq_false_iff_ne.2 (by omega);have h8z:decide ((8:Int)<(s.size:Int))=false:=decide_eq_false (by omega);have HA:=hid hA;clear hA;go_enter Tryz.func323,Tryz.ntmps323;go_wp2_with fail;refine (Tryz.strings_shouldUseASCIISet _ _).mono ?_;rintro e w' ⟨rfl,hw'⟩;rw [hw'];rw [h8z];go_wp2_with fail;go_loopg [] s.size (fun g wx=> ∃i:Nat,s.size-i≤g∧Hid (Below w.heap.size w wx∧wx.heap[w.heap.size]? =some (.stringIter s i)))
 case atStart=>exact ⟨0,by omega,hid ⟨Below.iter w s 0,World.iter_heap w s 0⟩⟩
 case round=>
  obtain ⟨i,hig,hI⟩:=hrel;have hk:=hI.out.2;have HB:=hid hI.out.1;have hlt:=Go.lt_of_block hk;clear hI;by_cases hi:i<s.size
  · have hnx:=fun ty=>Lib.run_next_any_at (P:=Tryz.prog) wr w.heap.size s i ty hk hi
    have hk2:=fun p=>Lib.iterAt_heap wr w.heap.size s i p hk
    have hb2:=fun p=>Lib.below_iterAt HB.out (Nat.le_refl _) s p
    have hsz:=fun p=>Lib.iterAt_size wr w.heap.size s p
    by_cases ha:s[i].toNat<128
    · rw [decode_ascii s i hi ha] at hnx;have K2:=hid (hk2 (i+1));have B2:=hid (hb2 (i+1));have hcon:=Lib.contains_iff_indexByte cs.data.toList s[i];have hback:((s[i].toNat:Int)).toNat.toUInt8=s[i]:=by simp
      have cR:=fun W=>Tryz.strings_IndexRune_ascii cs (s[i].toNat:Int) W (by omega) (by omega)
      rw [hback] at cR;clear hk2 hb2 hsz hk hback;simp only at hnx;generalize wr.iterAt w.heap.size s (i+1)=w2 at*;cases hin:cs.data.toList.contains s[i]
      · rw [hin] at hcon;have hlt0:decide ((0:Int)≤Lib.indexByte cs.data.toList s[i])=false:=hcon.symm;clear hcon hin;go_wp2_with fail;refine (cR _).mono ?_;rintro e w' ⟨rfl,hw'⟩;rw [hw'];go_wp2_with fail;go_roundg (s.size-(i+1))
        case measure=>omega
        case rel=>exact ⟨i+1,Nat.le_refl _,hid ⟨B2.out,K2.out⟩⟩
      · rw [hin] at hcon;have hlt0:decide ((0:Int)≤Lib.indexByte cs.data.toList s[i])=true:=hcon.symm;have HM:Hid (s[i]∈cs.data.toList):=by show s[i]∈_;simpa using hin
        clear hcon hin;go_wp2_with fail;refine (cR _).mono ?_;rintro e w' ⟨rfl,hw'⟩;rw [hw'];go_wp2_with fail;go_ret;exact ⟨⟨_,rfl,Or.inr ⟨i,hi,rfl,HM.out⟩⟩,B2.out⟩
    · have hh:=decode_high s i hi (by omega);have hle:=decode_le s i;obtain ⟨d,hd⟩:∃d,Utf8.decode s i=d:=⟨_,rfl⟩;rw [hd] at hnx hh hle;obtain ⟨c,k⟩:=d;simp only at hnx hh hle;obtain ⟨c128,k1⟩:=hh;have K2:=hid (hk2 (i+k));have B2:=hid (hb2 (i+k));have S2:=hid (hsz (i+k));clear hk2 hb2 hsz hk hd;generalize wr.iterAt w.heap.size s (i+k)=w2 at*;have cR:=fun W=>indexRune_high cs HA.out hc (c:Int) (by omega) (by omega) W
      go_wp2_with fail;refine (cR _).mono ?_;rintro e w' ⟨rfl,hb⟩;have K3:Hid (w'.heap[w.heap.size]? =some (.stringIter s (i+k))):=by
        show _=_;rw [hb.block _ (by rw [S2.out];exact hlt)];exact K2.out
      have B3:=hid (B2.out.trans (hb.mono (by rw [S2.out];omega)));clear hb;go_wp2_with fail;go_roundg (s.size-(i+k))
      case measure=>omega
      case rel=>exact ⟨i+k,Nat.le_refl _,hid ⟨B3.out,K3.out⟩⟩
  · have hnx:=fun ty=>Lib.run_next_end_at (P:=Tryz.prog) wr w.heap.size s i ty hk hi
    clear hk;go_wp2_with fail;go_ret;exact ⟨⟨-1,rfl,Or.inl rfl⟩,HB.out⟩
theorem containsAny_short (s cs:ByteArray) (hA:Asc cs) (h2:2≤cs.size) (hc:cs.size≤1000) (h8:s.size≤8) (w:World):
   Calls Tryz.prog 296 #[.string s,.string cs] w fun e w'=>(∃v:Bool,e= .returned (.bool v)∧(v=true→∃(i:Nat) (h:i<s.size),s[i]∈cs.data.toList))∧Below w.heap.size w w':=by
 have cI:=indexAny_short s cs hA h2 hc h8 w;clear hA;go_enter Tryz.func296,Tryz.ntmps296;go_wp2_with fail;refine cI.mono ?_;rintro e w' ⟨⟨v,rfl,hv⟩,hb⟩;have HV:=hid hv;have HB:=hid hb;clear hv hb;go_wp2_with fail;go_ret;refine ⟨⟨_,rfl,fun ht=> ?_⟩,HB.out⟩;rcases HV.out with h|⟨i,hi, -,hm⟩
 · subst h;simp at ht
 · exact ⟨i,hi,hm⟩
namespace W
open Go.Lib Go.RowKit
def holdTo (l:List UInt8):Option Int→Int×Bool
 | some n=>if itoa n=l then (n,true) else (0,false)
 | none=>(0,false)
def libP (l:List UInt8):Option Int:=match parseIntB 64 l with| .ok v=>some v|_=>none
def parseW (l:List UInt8):Int×Bool:=holdTo l (libP l)
def Fits (n:Int):Prop:= -9223372036854775808≤n∧n≤9223372036854775807
theorem dig_ofNat (k:Nat) (h:k<10):(UInt8.ofNat (48+k)).toNat=48+k:=by simp;omega
theorem lib_fits (l:List UInt8) (n:Int) (h:libP l=some n):Fits n:=by
 unfold libP at h;split at h
 · rename_i v hv;cases h;have:=parseIntB_bounds hv;unfold Fits;have e:(2 ^ (64-1):Nat)=9223372036854775808:=by decide
   rw [e] at this;omega
 · cases h
def hexV (c:UInt8):Option Nat:=
 if 48≤c.toNat∧c.toNat≤57 then some (c.toNat-48)
 else if 97≤(c.toNat|||32)∧(c.toNat|||32)≤102 then some ((c.toNat|||32)-87) else none
theorem hexV_lt (c:UInt8) (x:Nat) (h:hexV c=some x):x<16:=by
 unfold hexV at h;split at h
 · cases h;omega
 · split at h
   · cases h;omega
   · cases h
def hexP:Nat→List UInt8→Option Nat
 | acc,[]=>some acc
 | acc,c::r=>match hexV c with
   | some d=>hexP (acc*16+d) r
   | none=>none
theorem hexP_none (acc:Nat) (c:UInt8) (r:List UInt8) (h:hexV c=none):hexP acc (c::r)=none:=by simp only [hexP,h]
theorem hexP_some (acc:Nat) (c:UInt8) (r:List UInt8) (d:Nat) (h:hexV c=some d):hexP acc (c::r)=hexP (acc*16+d) r:=by simp only [hexP,h]
end W
end Go.Proofs.YtohkomndapngjaaGreatDoor

