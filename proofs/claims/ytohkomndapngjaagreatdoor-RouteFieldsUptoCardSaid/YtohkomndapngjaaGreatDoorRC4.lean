/- The walks of the library's ParseUint at four digits of base sixteen. After the shelf's walk at base ten. -/
import Derived.Test.YtohkomndapngjaaGreatDoorRC3
import Derived.Test.YtohkomndapngjaaGreatDoorRC2
import Derived.Lib.ConvBytes
import Derived.Test.YtohkomndapngjaaGreatDoorRC1
import Derived.Test.YtohkomndapngjaaGreatDoorShelf
import Derived.Lib.Bytealg
import Derived.Deep.WholeRow
namespace Go.Proofs.YtohkomndapngjaaGreatDoor
set_option maxRecDepth 100000
set_option maxHeartbeats 16000000
open Go.RowKit
open Go.Lib (hid)
theorem lower_bits (c:UInt8):bits .or .u8 (c.toNat:Int) 32=((c.toNat|||32:Nat):Int):=by
 have hf:∀y:Fin 256,bits .or .u8 ((y.val:Nat):Int) 32=((y.val|||32:Nat):Int):=by decide+kernel
 exact hf ⟨c.toNat,c.toNat_lt⟩
theorem lower_any (c:UInt8) (w:World):
  Calls Tryz.prog 276 #[.int .u8 c.toNat] w fun e w'=>e= .returned (.int .u8 ((c.toNat|||32:Nat):Int))∧w'=w:=by
 have hb:=lower_bits c;obtain ⟨L,hL⟩:∃L:Nat,c.toNat|||32=L:=⟨_,rfl⟩;rw [hL] at hb ⊢;go_enter Tryz.func276,Tryz.ntmps276;go_wp2;go_ret;exact ⟨rfl,rfl⟩
def hexT:Option Nat→Value
 | some x=> .tuple #[.int .u64 x,.nilIface]
 | none=> .tuple #[.int .u64 0,.iface 340 (.int .i64 2)]
theorem innerUint_hex4 (t:ByteArray) (h2:t.size=4) (w:World):
  Calls Tryz.prog 231 #[.string t,.int .i64 16,.int .i64 32] w fun e w'=>e= .returned (hexT (W.hexP 0 t.data.toList))∧w'=Lib.bytesWorld w 5 t:=by
 have hemp:t.toList.isEmpty=false:=by
  rw [←decide_eq_emptyBytes];exact decide_eq_false (fun h=>by rw [h] at h2;exact absurd h2 (by decide))
 have hcv:=Lib.run_convert_string_bytes (P:=Tryz.prog) w 9 66 5 t (u:= .string) Tryz.underlying9 Tryz.underlying66 Tryz.underlying5;have hB:∀j,j<t.size→(Lib.bytesWorld w 5 t).cell? ⟨w.heap.size,j,none⟩=some (.int .u8 (t.data.toList.getD j 0).toNat):=fun j hj=>Lib.bytesWorld_cell w 5 t j hj
 obtain ⟨W1,hW1⟩:∃W1,W1=Lib.bytesWorld w 5 t:=⟨_,rfl⟩;rw [←hW1] at hcv hB ⊢;clear hW1;obtain ⟨bs,hL⟩:∃bs,bs=t.data.toList:=⟨_,rfl⟩;have hLn:bs.length=t.size:=by rw [hL,Lib.size_eq]
 rw [←hL] at hB ⊢;clear hL;obtain ⟨RES,hRES⟩:∃RES,W.hexP 0 bs=RES:=⟨_,rfl⟩;rw [hRES];have hmv:IntKind.u64.wrap (IntKind.u64.wrap 4294967296-1)=4294967295:=by
  rw [IntKind.wrap_u64,IntKind.wrap_u64];decide
 go_enter Tryz.func231,Tryz.ntmps231;go_wp2;go_loop [12,13,101] (fun vu vn vi=> ∃(k acc:Nat) (a:Int),vu= .bool false∧vn= .int .u64 a∧vi= .int .i64 k∧k≤4∧Hid (a=(acc:Int)∧(k≤3→acc≤4095)∧(k≤2→acc≤255)∧(k≤1→acc≤15)∧acc≤65535∧(k=0→acc=0)∧W.hexP acc (bs.drop k)=RES))
  (fun _ _ vi=>4-(intOf vi).toNat)
 case atStart=>exact ⟨0,0,0,rfl,rfl,rfl,by omega,rfl,by omega,by omega,by omega,by omega,by omega,hRES⟩
 case round=>
  obtain ⟨k,acc,a,rfl,rfl,rfl,hk,hh⟩:=hrel;obtain ⟨ha,hk3,hk2,hk1,hacc,hk0,hd⟩:=hh.out;clear hh;have a0:0≤a:=by omega
  have a1:a≤65535:=by omega
  clear hRES;by_cases hkn:k<4
  · have hc:=hB k (by omega);have hdrop:bs.drop k=bs[k]'(by omega)::bs.drop (k+1):=List.drop_eq_getElem_cons (by omega);have hget:bs.getD k 0=bs[k]'(by omega):=by simp [List.getD,List.getElem?_eq_getElem (show k<bs.length by omega)]
    rw [hdrop] at hd;rw [hget] at hc;generalize bs[k]'(by omega)=c at hc hd;have hc256:c.toNat<256:=c.toNat_lt;have hl256:(c.toNat|||32)<256:=by have:=(c|||32).toNat_lt;rwa [UInt8.toNat_or] at this
    have a2:a≤4095:=by have:=hk3 (by omega);omega
    have cL:=fun w':World=>lower_any c w'
    have hl:decide ((k:Int)<(t.size:Int))=true:=by simp;omega
    clear hB hdrop hget;have hstep:∀d:Nat,d<16→W.hexV c=some d→Hid (a*16+(d:Int)=((acc*16+d:Nat):Int)∧(k+1≤3→acc*16+d≤4095)∧(k+1≤2→acc*16+d≤255)∧(k+1≤1→acc*16+d≤15)∧acc*16+d≤65535∧(k+1=0→acc*16+d=0)∧W.hexP (acc*16+d) (bs.drop (k+1))=RES):=by
      intro d hd16 hv;rw [W.hexP_some _ _ _ _ hv] at hd;have h3:=hk3 (by omega);exact ⟨by omega,by intro h;have:=hk2 (by omega);omega,by intro h;have:=hk1 (by omega);omega,by intro h;have:=hk0 (by omega);omega,by omega,by omega,hd⟩
    have hnone:W.hexV c=none→Hid (RES=none):=by
      intro hv;rw [W.hexP_none _ _ _ hv] at hd;exact hd.symm
    clear hd hk3 hk2 hk1 hk0 hacc ha;by_cases hdig:48≤c.toNat∧c.toNat≤57
    · have hv:W.hexV c=some (c.toNat-48):=by unfold W.hexV;rw [if_pos hdig]
      have HN:=hstep _ (by omega) hv;have e0:((c.toNat:Int)==95)=false:=beq_eq_false_iff_ne.2 (by omega);have e1:decide ((48:Int)≤(c.toNat:Int))=true:=by simp;omega
      have e2:decide ((c.toNat:Int)≤57)=true:=by simp;omega
      have iov:a*16+((c.toNat:Int)-48)≤4294967295:=by omega
      clear hv hstep hnone;go_wp2_with fail;refine ⟨⟨k+1,acc*16+(c.toNat-48),a*16+((c.toNat-48:Nat):Int),rfl,(by first|rfl| (congr 1;omega)),(by first|rfl| (congr 1;omega)),by omega,HN⟩,by simp [intOf];omega⟩
    · obtain ⟨L,hLL⟩:∃L:Nat,c.toNat|||32=L:=⟨_,rfl⟩;have hV:W.hexV c=if 97≤L∧L≤102 then some (L-87) else none:=by unfold W.hexV;rw [if_neg hdig,hLL]
      have hu:c.toNat=95→¬ (97≤L∧L≤122):=by
        intro h;rw [h] at hLL;subst hLL;decide
      rw [hLL] at hl256 cL;clear hLL;have e95:∀q,decide (c.toNat=95)=q→((c.toNat:Int)==95)=q:=by
        intro q h;rw [←h];by_cases h':c.toNat=95
        · rw [h'];rfl
        · rw [decide_eq_false h'];exact beq_eq_false_iff_ne.2 (by omega)
      have hdg:decide ((48:Int)≤(c.toNat:Int))=false∨(decide ((48:Int)≤(c.toNat:Int))=true∧decide ((c.toNat:Int)≤57)=false):=by
        by_cases h:48≤c.toNat
        · right;exact ⟨by simp;omega,by simp;omega⟩
        · left;simp;omega
      by_cases hlet:97≤L∧L≤122
      · have e0:=e95 false (decide_eq_false (fun h=>hu h hlet));have e3:decide ((97:Int)≤(L:Int))=true:=by simp;omega
        have e4:decide ((L:Int)≤122)=true:=by simp;omega
        by_cases h6:L≤102
        · have HN:=hstep (L-87) (by omega) (by rw [hV,if_pos (by omega)]);have iov:a*16+((L:Int)-97+10)≤4294967295:=by omega
          obtain ⟨hlet0, -⟩:=hlet;clear hV hu e95 hstep hnone hdig;rcases hdg with e1|⟨e1,e2⟩;all_goals
            go_wp2_with (go_at_call 276;refine (cL _).mono ?_;rintro e w' ⟨rfl,rfl⟩);refine ⟨⟨k+1,acc*16+(L-87),a*16+((L-87:Nat):Int),rfl,(by first|rfl| (congr 1;omega)),(by first|rfl| (congr 1;omega)),by omega,HN⟩,by simp [intOf];omega⟩
        · have HN:=hnone (by rw [hV,if_neg (by omega)]);obtain ⟨hlet0,hlet1⟩:=hlet;clear hV hu e95 hstep hnone hdig;rcases hdg with e1|⟨e1,e2⟩;all_goals
            go_wp2_with (go_at_call 276;refine (cL _).mono ?_;rintro e w' ⟨rfl,rfl⟩);go_ret2;exact ⟨by rw [HN.out];rfl,rfl⟩
      · have HN:=hnone (by rw [hV,if_neg (by omega)]);have hlt:decide ((97:Int)≤(L:Int))=false∨(decide ((97:Int)≤(L:Int))=true∧decide ((L:Int)≤122)=false):=by
          by_cases h:97≤L
          · right;exact ⟨by simp;omega,by simp;omega⟩
          · left;simp;omega
        clear hV hu hstep hnone hdig hlet;by_cases h95:c.toNat=95;all_goals
          have e0:=e95 _ (by first|exact decide_eq_true h95|exact decide_eq_false h95);clear e95 h95;rcases hdg with e1|⟨e1,e2⟩;all_goals
            rcases hlt with e3|⟨e3,e4⟩;all_goals
             go_wp2_with (go_at_call 276;refine (cL _).mono ?_;rintro e w' ⟨rfl,rfl⟩);go_ret2;exact ⟨by rw [HN.out];rfl,rfl⟩
  · obtain rfl:k=4:=by omega
    rw [List.drop_of_length_le (by omega)] at hd;have hl:decide ((4:Int)<(t.size:Int))=false:=by simp;omega
    have HD:Hid (RES=some acc):=hd.symm;subst ha;clear hd hB hk3 hk2 hk1 hk0 hacc a0 a1;go_wp2_with fail;go_ret2;exact ⟨by rw [HD.out];rfl,rfl⟩
theorem parseHex4_any (t : ByteArray) (h2 : t.size = 4) (w : World) (hE : Errs w) :
   Calls Tryz.prog 297 #[.string t, .int .i64 16, .int .i64 32] w fun e w' =>
    (match W.hexP 0 t.data.toList with
     | some x => e = .returned (.tuple #[.int .u64 x, .nilIface])
     | none => ∃ N, e = .returned (.tuple #[.int .u64 0, .iface 343 (.pointer (some ⟨N, 0, none⟩))])) ∧ Below w.heap.size w w' := by
 have hI := innerUint_hex4 t h2 w
 cases hx : W.hexP 0 t.data.toList with
 | some x =>
   rw [hx] at hI
   clear hx
   simp only [hexT] at hI
   go_enter Tryz.func297, Tryz.ntmps297
   go_wp2_with fail
   refine hI.mono ?_
   rintro e w1 ⟨rfl, rfl⟩
   go_wp2_with fail
   go_ret2
   exact ⟨rfl, Lib.bytesWorld_below _ _ _⟩
 | none =>
   rw [hx] at hI
   clear hx
   simp only [hexT] at hI
   obtain ⟨⟨t1, p1, h1⟩, _⟩ := hE
   have hc : w.cell? ⟨4, 0, none⟩ = some (.iface t1 p1) := by
    have h0 := World.var?_cell (show Tryz.prog.globalNamed "strconv.ErrSyntax" = some 4 by kernel_rfl) h1 0
    simpa using h0
   have hlt := Lib.lt_of_cell hc
   have hc2 : (Lib.bytesWorld w 5 t).cell? ⟨4, 0, none⟩ = some (.iface t1 p1) := ((Lib.bytesWorld_below w 5 t).cell hlt).trans hc
   have hE := Any.strconv_toError_syntax (ρ := Tryz.laysC174_ren) { Tryz.laysC174 with } ⟨#[80, 97, 114, 115, 101, 85, 105, 110, 116]⟩ t 16 32 (.iface t1 p1) _ (by omega) hc2 (Or.inr ⟨_, _, rfl⟩)
   have hb0 := Lib.bytesWorld_below w 5 t
   obtain ⟨W1, hW1⟩ : ∃ W1, W1 = Lib.bytesWorld w 5 t := ⟨_, rfl⟩
   rw [← hW1] at hI hE hb0
   clear hW1 hc hc2 h1
   go_enter Tryz.func297, Tryz.ntmps297
   go_wp2_with fail
   refine hI.mono ?_
   rintro e w1 ⟨rfl, rfl⟩
   go_wp2_with fail
   refine hE.mono ?_
   rintro e w2 ⟨N, rfl, _, _, hb⟩
   go_wp2_with fail
   go_ret2
   exact ⟨⟨N, rfl⟩, hb0.trans (hb.mono hb0.size)⟩
namespace J
def fourI (l:List UInt8):Int:=match four l with|some v=>(v:Nat)|none=> -1
def u6:List UInt8→Int
 | 92::117::r=>fourI r
 | _=> -1
theorem hexV_eq (c:UInt8):W.hexV c=hexV c:=by
 have h:∀n:Fin 256,W.hexV (UInt8.ofNat n.val)=hexV (UInt8.ofNat n.val):=by decide+kernel
 have:=h ⟨c.toNat,c.toNat_lt⟩;simpa using this
theorem hexP_four {a b c d:UInt8}(r:List UInt8):W.hexP 0 [a,b,c,d]=four (a::b::c::d::r):=by
 simp only [W.hexP,hexV_eq,four];cases hexV a with
 | none=>rfl
 | some x=>simp only;cases hexV b with
   | none=>rfl
   | some y=>simp only;cases hexV c with
     | none=>rfl
     | some z=>simp only;cases hexV d with
       | none=>rfl
       | some u=>simp
theorem four_short {l:List UInt8}(h:l.length<4):four l=none:=by
 match l,h with
 | [],_=>rfl
 | [_],_=>rfl
 | [_,_],_=>rfl
 | [_,_,_],_=>rfl
theorem u6_short {l:List UInt8}(h:l.length<6):u6 l= -1:=by
 unfold u6;split
 · unfold fourI;rw [four_short (by simp at h;omega)]
 · rfl
theorem u6_not {a b:UInt8}{r:List UInt8}(h:¬ (a=92∧b=117)):u6 (a::b::r)= -1:=by
 unfold u6;split
 · rename_i e;simp only [List.cons.injEq] at e;exact absurd ⟨e.1,e.2.1⟩ h
 · rfl
theorem u6_yes (r:List UInt8):u6 (92::117::r)=fourI r:=rfl
theorem hexV_sign {c:UInt8}(h:c∈ [(43:UInt8),45,95]):hexV c=none:=by
 simp only [List.mem_cons,List.not_mem_nil,or_false] at h;rcases h with rfl|rfl|rfl<;>rfl
theorem four_sign {a b c d:UInt8}(r:List UInt8) (h:hexV a=none∨hexV b=none∨hexV c=none∨hexV d=none):four (a::b::c::d::r)=none:=by
 simp only [four];rcases h with h|h|h|h
 · rw [h]
 · rw [h];cases hexV a<;>rfl
 · rw [h];cases hexV a<;>cases hexV b<;>rfl
 · rw [h];cases hexV a<;>cases hexV b<;>cases hexV c<;>rfl
theorem four_lt {r:List UInt8}{v:Nat}(h:four r=some v):v≤65535:=by
 have hv:∀c x,hexV c=some x→x<16:=fun c x h=>W.hexV_lt c x ((hexV_eq c).trans h)
 unfold four at h;split at h
 · split at h
   · rename_i x y z u h1 h2 h3 h4;have:=hv _ _ h1;have:=hv _ _ h2;have:=hv _ _ h3;have:=hv _ _ h4;have:=Option.some.inj h;omega
   · cases h
 · cases h
theorem fourI_lt (r:List UInt8):fourI r= -1∨(0≤fourI r∧fourI r≤65535):=by
 unfold fourI;cases h:four r with
 | none=>left;rfl
 | some v=>
   have:=four_lt h;right;show 0≤(v:Int)∧(v:Int)≤65535;omega
theorem u6_lt (l:List UInt8):u6 l= -1∨(0≤u6 l∧u6 l≤65535):=by
 unfold u6;split
 · exact fourI_lt _
 · left;rfl
end J
theorem cut_list (s:ByteArray) (n m:Nat):(s.extract n m).data.toList=(s.data.toList.drop n).take (m-n):=by
 rw [ByteArray.data_extract,Array.toList_extract]
def Tabs (w:World):Prop:=Lib.Utf8Tabs 0 1 w
theorem Tabs.below {B:Nat}{w w':World}(h:Tabs w) (hb:Below B w w') (h0:0<B) (h1:1<B):Tabs w':=by
 refine ⟨fun c hc=> ?_,fun i hi=> ?_⟩
 · rw [hb.cell (p:=⟨0,c,none⟩) h0];exact h.1 c hc
 · rw [hb.cell (p:=⟨1,2*i,none⟩) h1,hb.cell (p:=⟨1,2*i+1,none⟩) h1];exact h.2 i hi
theorem Tabs.size {w:World}(h:Tabs w):0<w.heap.size∧1<w.heap.size:=
 ⟨block_lt_of_cell (h.1 0 (by omega)),block_lt_of_cell (h.2 0 (by omega)).1⟩
structure Ground (B:Nat) (w:World):Prop where
 errs:∀X,Below B w X→Errs X
 tabs:∀X,Below B w X→Tabs X
theorem Ground.keep {B:Nat}{w w':World}(h:Ground B w) (hb:Below B w w'):Ground B w':=⟨fun X hX=>h.errs X (hb.trans hX),fun X hX=>h.tabs X (hb.trans hX)⟩
theorem Ground.first {w:World}(hE:Errs w) (hT:Tabs w):Ground w.heap.size w:=⟨fun _ h=>hE.keep h,fun _ h=>hT.below h hT.size.1 hT.size.2⟩
theorem Rdr.base {w W:World}{R p B:Nat}{s:ByteArray}{e x:Int}(h:Rdr w R s p e x W) (hB:B≤R):Below B w W:=
 ⟨h.g.os,h.g.tape,h.g.output,h.g.size,fun k hk=>h.g.block k (by have:=h.lt;omega) (fun e=>by have:=Option.some.inj e;omega)⟩
theorem bad0 {w:World}{R p:Nat}{s:ByteArray}{W:World}(h:Rdr w R s p 0 0 W):
 Calls Tryz.prog 59 #[.pointer (some ⟨R,0,none⟩)] W fun en W'=>en= .returned (.bool false)∧Rdr w R s p 4 (p:Int) W':=bad_any h
theorem fail0 {w:World}{R p:Nat}{s:ByteArray}(er at_:Int) {W:World}(h:Rdr w R s p 0 0 W):
 Calls Tryz.prog 113 #[.pointer (some ⟨R,0,none⟩),.int .i64 er,.int .i64 at_] W fun en W'=>en= .returned (.bool false)∧Rdr w R s p er at_ W':=fail_any er at_ h
theorem Rdr.under {w W W' : World} {R p B : Nat} {s : ByteArray} {e x : Int} (h : Rdr w R s p e x W) (b : Below B W W') (hB : w.heap.size ≤ B) : Rdr w R s p e x W' :=
  ⟨⟨b.os.trans h.g.os, b.tape.trans h.g.tape, b.output.trans h.g.output, Nat.le_trans h.g.size b.size, fun k hk hne => (b.block k (by omega)).trans (h.g.block k hk hne)⟩,
    by rw [b.block _ (by have := h.lt; omega)]; exact h.r, h.lt⟩
theorem Rdr.trans {w W W':World}{R p q:Nat}{s:ByteArray}{e x e' x':Int}(h:Rdr w R s p e x W) (h':Rdr W R s q e' x' W'):Rdr w R s q e' x' W':=⟨h.g.trans h'.g,h'.r,h.lt⟩
theorem Rdr.own {w W:World}{R p:Nat}{s:ByteArray}{e x:Int}(h:Rdr w R s p e x W):Rdr W R s p e x W:=⟨⟨rfl,rfl,rfl,Nat.le_refl _,fun _ _ _=>rfl⟩,h.r,Go.lt_of_block h.r⟩
theorem list6 {l:List UInt8}(h:6≤l.length):∃a b c d e f r,l=a::b::c::d::e::f::r:=by
 match l,h with
 | a::b::c::d::e::f::r,_=>exact ⟨a,b,c,d,e,f,r,rfl⟩
theorem asc_signs:Asc ⟨#[43,45,95]⟩:=by
 intro j b h;have hm:=List.mem_of_getElem? h;have:(⟨#[43,45,95]⟩:ByteArray).data.toList= [43,45,95]:=rfl;rw [this] at hm;simp only [List.mem_cons,List.not_mem_nil,or_false] at hm;rcases hm with rfl|rfl|rfl<;>decide
theorem unit_any {w:World}{B R p:Nat}{s:ByteArray}{e x:Int}(a:Nat) {W:World}(h:Rdr w R s p e x W) (_ha:a≤200000000000000) (_hs:s.size≤140737488355328) (hG:Ground B w) (hBR:B≤R):
   Calls Tryz.prog 256 #[.pointer (some ⟨R,0,none⟩),.int .i64 a] W fun en W'=>en= .returned (.int .i32 (J.u6 (s.data.toList.drop a)))∧Below W.heap.size W W':=by
 obtain ⟨RES,hRES⟩:∃x,J.u6 (s.data.toList.drop a)=x:=⟨_,rfl⟩;rw [hRES];obtain ⟨c0, -, -, -⟩:=h.cells;have HG:=hid (fun X (hX:Below W.heap.size W X)=>hG.errs X ((h.base hBR).trans (hX.mono (by have:=h.g.size;have:=h.lt;omega))));clear h hG;obtain ⟨m,hm⟩:∃m,m=min a s.size:=⟨_,rfl⟩;have hmi:min (a:Int) (s.size:Int)=(m:Int):=by omega
 have m0:(0:Int)≤(m:Int):=by omega
 have m1:(m:Int)≤(s.size:Int):=by omega
 obtain ⟨q,hq⟩:∃q,s.extract m s.size=q:=⟨_,rfl⟩;have hl:q.data.toList=s.data.toList.drop a:=by
   rw [←hq,Lib.extract_to_end];rcases Nat.lt_or_ge s.size a with h|h
   · rw [drop_end (show s.size≤m by omega),drop_end (by omega)]
   · rw [show m=a by omega]
 have hqz:q.size=(s.data.toList.drop a).length:=by rw [←hl,←Lib.size_eq]
 by_cases h6:q.size<6
 · have t0:decide ((q.size:Int)<6)=true:=by simp;omega
   have HE:Hid (RES= -1):=by
     show _=_;rw [←hRES,J.u6_short (by omega)]
   clear hRES hl hm hqz;go_enter Tryz.func256,Tryz.ntmps256;go_wp2_with fail;go_quiet (fail);go_wp2_with fail;go_ret;exact ⟨by rw [HE.out];rfl,below_drewN (Below.refl _ _) _⟩
 · have t0:decide ((q.size:Int)<6)=false:=by simp;omega
   have q2:(2:Int)≤(q.size:Int):=by omega
   have q6:(6:Int)≤(q.size:Int):=by omega
   obtain ⟨x0,x1,x2,x3,x4,x5,r,hx⟩:=list6 (l:=s.data.toList.drop a) (by omega);have e2:q.extract 0 2=⟨#[x0,x1]⟩:=ByteArray.ext (Array.ext' (by rw [cut_list,hl,hx];rfl));have e4:q.extract 2 6=⟨#[x2,x3,x4,x5]⟩:=ByteArray.ext (Array.ext' (by rw [cut_list,hl,hx];rfl));rw [hx] at hRES;by_cases hu:x0=92∧x1=117
   · obtain ⟨rfl,rfl⟩:=hu;rw [J.u6_yes] at hRES;obtain ⟨t,ht⟩:∃t,q.extract 2 6=t:=⟨_,rfl⟩;have t4:t.size=4:=by rw [←ht,e4];rfl
     have tl:t.data.toList= [x2,x3,x4,x5]:=by rw [←ht,e4]
     have cC:=fun X=>containsAny_short t ⟨#[43,45,95]⟩ asc_signs (by decide) (by decide) (by omega) X
     have cP:=fun X (hX:Below W.heap.size W X)=>parseHex4_any t t4 X (HG.out X hX)
     rw [tl,J.hexP_four r] at cP;have HS:Hid ((∃(i:Nat) (h:i<t.size),t[i]∈(⟨#[43,45,95]⟩:ByteArray).data.toList)→RES= -1):=by
       rintro ⟨i,hi,hmem⟩;rw [←hRES];have hmem':∃y,y∈ [x2,x3,x4,x5]∧y∈ [(43:UInt8),45,95]:=⟨t[i],by rw [←tl];exact List.mem_of_getElem? (Lib.data_getElem? t i hi),hmem⟩;obtain ⟨y,hy,hy'⟩:=hmem';have hn:=J.hexV_sign hy';unfold J.fourI;rw [J.four_sign r (by
         simp only [List.mem_cons,List.not_mem_nil,or_false] at hy;rcases hy with rfl|rfl|rfl|rfl
         · exact Or.inl hn
         · exact Or.inr (Or.inl hn)
         · exact Or.inr (Or.inr (Or.inl hn))
         · exact Or.inr (Or.inr (Or.inr hn)))]
     have HR:=hid hRES;have HCP:=hid cP;clear hRES hl hx tl e4 hm hqz cP h6 HG;go_enter Tryz.func256,Tryz.ntmps256;go_wp2_with fail;go_quiet (fail);have HB0:=hid (below_drewN (Below.refl W.heap.size W) nq);clear c0;generalize World.drewN W nq=w1 at*;go_wp2_with fail;refine (cC _).mono ?_;rintro en w2 ⟨⟨v,rfl,hv⟩,hb⟩;have HV:=hid hv;have HB1:=hid (HB0.out.trans (hb.mono HB0.out.size));clear hv hb HB0;cases v
     · clear HV HS;go_wp2_with fail;refine (HCP.out _ HB1.out).mono ?_;cases hf:J.four (x2::x3::x4::x5::r) with
       | none=>
         rintro en w3 ⟨⟨N,rfl⟩,hb⟩;have HE:Hid (RES= -1):=by
           show _=_;rw [←HR.out];unfold J.fourI;rw [hf]
         have HB2:=hid (HB1.out.trans (hb.mono HB1.out.size));clear hf HR HCP hb;go_wp2_with fail;go_ret;exact ⟨by rw [HE.out];rfl,HB2.out⟩
       | some v=>
         rintro en w3 ⟨rfl,hb⟩;have hE:(v:Int)=RES:=by
           rw [←HR.out];unfold J.fourI;rw [hf]
         have hlt:=J.fourI_lt (x2::x3::x4::x5::r);rw [HR.out,←hE] at hlt;have v0:(0:Int)≤(v:Int):=by omega
         have v1:(v:Int)≤65535:=by omega
         have HB2:=hid (HB1.out.trans (hb.mono HB1.out.size));have HE:=hid hE;clear hf HR HCP hb hlt hE;go_wp2_with fail;go_ret;exact ⟨by rw [←HE.out];rfl,HB2.out⟩
     · have HE:Hid (RES= -1):=HS.out (HV.out rfl);clear HV HS HCP HR;go_wp2_with fail;go_ret;exact ⟨by rw [HE.out];rfl,HB1.out⟩
   · have t1:((q.extract 0 2).toList== [92,117])=false:=by
       rw [beq_eq_false_iff_ne,e2,Lib.toList_data];intro h;have h': [x0,x1]= [92,117]:=h;simp only [List.cons.injEq,and_true] at h';exact hu h'
     have HE:Hid (RES= -1):=by
       show _=_;rw [←hRES,J.u6_not hu]
     clear hRES hl hx e2 e4 hm hqz hu;go_enter Tryz.func256,Tryz.ntmps256;go_wp2_with fail;go_quiet (fail);go_wp2_with fail;go_ret;exact ⟨by rw [HE.out];rfl,below_drewN (Below.refl _ _) _⟩
namespace J
def escU (U L:Int) (n:Nat) (r6 r12:List UInt8):Res (List UInt8):=
 if U<0 then .error (n,4)
 else if 55296≤U∧U≤56319 then (if 56320≤L∧L≤57343 then .ok (W.charL (65536+(U-55296)*1024+L-56320),r12) else .error (n,4))
 else if 56320≤U∧U≤57343 then .error (n,4)
 else .ok (W.charL U,r6)
theorem fourI_some {r:List UInt8}{v:Nat}(h:four r=some v):fourI r=(v:Int):=by unfold fourI;rw [h]
theorem fourI_none {r:List UInt8}(h:four r=none):fourI r= -1:=by unfold fourI;rw [h]
theorem ok_plain {v:Nat}(h:v≤65535) (h1:¬ (55296≤v∧v≤57343)):W.charOk (v:Int)=true:=by
 simp only [W.charOk,Bool.or_eq_true,decide_eq_true_eq];omega
theorem ok_pair {v lo:Int}(h:55296≤v∧v≤56319) (h1:56320≤lo∧lo≤57343):W.charOk (65536+(v-55296)*1024+lo-56320)=true:=by
 simp only [W.charOk,Bool.or_eq_true,decide_eq_true_eq];omega
theorem ok_half {v:Nat}(h:56320≤v∧v≤57343):W.charOk (v:Int)=false:=by
 rw [Bool.eq_false_iff];simp only [W.charOk,ne_eq,Bool.or_eq_true,decide_eq_true_eq];omega
theorem unit_pair {r:List UInt8}{v:Nat}(hf:four r=some v) (h1:55296≤v∧v≤56319):unit r=if 56320≤u6 (r.drop 4)∧u6 (r.drop 4)≤57343 then some (65536+((v:Int)-55296)*1024+u6 (r.drop 4)-56320,(r.drop 4).drop 6) else none:=by
 unfold unit;rw [hf];simp only;rw [if_pos h1];generalize r.drop 4=m;split
 · rename_i r2;rw [u6_yes];cases hf2:four r2 with
   | none=>rw [fourI_none hf2];rfl
   | some lo=>
     rw [fourI_some hf2];simp only;by_cases h2:56320≤lo∧lo≤57343
     · rw [if_pos h2,if_pos (show 56320≤(lo:Int)∧(lo:Int)≤57343 by omega)];rfl
     · rw [if_neg h2,if_neg (show ¬ (56320≤(lo:Int)∧(lo:Int)≤57343) by omega)]
 · rename_i hno;have e:u6 m= -1:=by
     unfold u6;split
     · rename_i r2;exact absurd rfl (hno r2)
     · rfl
   rw [e];rfl
theorem esc_u {l:List UInt8}{t:List UInt8}(hl:l=92::t) (hs:∀c r,t=c::r→sign c=none):esc l=escU (u6 l) (u6 (l.drop 6)) l.length (l.drop 6) (l.drop 12):=by
 subst hl;unfold esc;rw [show (92::t).drop 1=t from rfl];cases t with
 | nil=>rfl
 | cons c r=>
   simp only;rw [hs c r rfl];simp only;by_cases hc:c=117
   · subst hc;rw [if_pos rfl,u6_yes,show (92::117::r).drop 6=r.drop 4 from rfl,show (92::117::r).drop 12=r.drop 10 from rfl];cases hf:four r with
     | none=>rw [fourI_none hf];unfold unit;rw [hf];rfl
     | some v=>
       have hv:=four_lt hf;rw [fourI_some hf];unfold escU;rw [if_neg (show ¬ ((v:Int)<0) by omega)];by_cases h1:55296≤v∧v≤56319
       · rw [if_pos (show 55296≤(v:Int)∧(v:Int)≤56319 by omega)];rw [unit_pair hf h1];by_cases h2:56320≤u6 (r.drop 4)∧u6 (r.drop 4)≤57343
         · rw [if_pos h2,if_pos h2];simp only;rw [if_pos (ok_pair (by omega) h2),List.drop_drop]
         · rw [if_neg h2,if_neg h2]
       · rw [show unit r=some ((v:Int),r.drop 4) by unfold unit;rw [hf];simp only;rw [if_neg h1],if_neg (show ¬ (55296≤(v:Int)∧(v:Int)≤56319) by omega)];simp only;by_cases h2:56320≤v∧v≤57343
         · rw [ok_half h2,if_pos (show 56320≤(v:Int)∧(v:Int)≤57343 by omega)];rfl
         · rw [ok_plain hv (by omega),if_neg (show ¬ (56320≤(v:Int)∧(v:Int)≤57343) by omega)];rfl
   · rw [if_neg hc,u6_not (by intro h;exact hc h.2)];rfl
theorem esc_sign {c d:UInt8}{r:List UInt8}(h:sign c=some d):esc (92::c::r)= .ok ([d],r):=by
 unfold esc;rw [show (92::c::r).drop 1=c::r from rfl];simp only;rw [h]
theorem sign_at {c d:UInt8}(h:sign c=some d):∃i:Nat,i<8∧ [(34:UInt8),92,47,98,102,110,114,116][i]? =some c∧ [(34:UInt8),92,47,8,12,10,13,9][i]? =some d∧Lib.indexByte [34,92,47,98,102,110,114,116] c=(i:Int):=by
 unfold sign at h;split at h
 · rename_i e;subst e;cases h;exact ⟨0,by omega,rfl,rfl,by decide⟩
 split at h
 · rename_i e;subst e;cases h;exact ⟨1,by omega,rfl,rfl,by decide⟩
 split at h
 · rename_i e;subst e;cases h;exact ⟨2,by omega,rfl,rfl,by decide⟩
 split at h
 · rename_i e;subst e;cases h;exact ⟨3,by omega,rfl,rfl,by decide⟩
 split at h
 · rename_i e;subst e;cases h;exact ⟨4,by omega,rfl,rfl,by decide⟩
 split at h
 · rename_i e;subst e;cases h;exact ⟨5,by omega,rfl,rfl,by decide⟩
 split at h
 · rename_i e;subst e;cases h;exact ⟨6,by omega,rfl,rfl,by decide⟩
 split at h
 · rename_i e;subst e;cases h;exact ⟨7,by omega,rfl,rfl,by decide⟩
 · cases h
theorem sign_none {c:UInt8}(h:sign c=none):Lib.indexByte [34,92,47,98,102,110,114,116] c= -1:=by
 have hall:∀n:Fin 256,sign (UInt8.ofNat n.val)=none→Lib.indexByte [34,92,47,98,102,110,114,116] (UInt8.ofNat n.val)= -1:=by decide+kernel
 have:=hall ⟨c.toNat,c.toNat_lt⟩;simp only [UInt8.ofNat_toNat] at this;exact this h
end J
theorem infoJSON:(Tryz.prog.info? 26).map (·.size)=some 6:=by kernel_rfl
theorem null_any (w:World):Calls Tryz.prog 104 #[] w fun e w'=>e= .returned (.agg #[.int .u8 1,.bool false,.int .i64 0,.string ⟨#[]⟩,.slice none 0 0,.slice none 0 0])∧Below w.heap.size w w':=by
 go_enter Tryz.func104,Tryz.ntmps104;go_wp2;exact bodyPost_ret (v:= .agg #[.int .u8 1,.bool false,.int .i64 0,.string ⟨#[]⟩,.slice none 0 0,.slice none 0 0]) (results_cell_row rfl _ _ w.heap.size 26 _ (0,0) _ rfl (heap_alloc_new w _) Tryz.underlying26 rfl infoJSON) rfl ⟨rfl,(Below.refl _ w).alloc (Nat.le_refl _) _⟩
theorem yes_any (b:Bool) (w:World):Calls Tryz.prog 25 #[.bool b] w fun e w'=>e= .returned (.agg #[.int .u8 2,.bool b,.int .i64 0,.string ⟨#[]⟩,.slice none 0 0,.slice none 0 0])∧Below w.heap.size w w':=by
 go_enter Tryz.func25,Tryz.ntmps25;go_wp2;exact bodyPost_ret (v:= .agg #[.int .u8 2,.bool b,.int .i64 0,.string ⟨#[]⟩,.slice none 0 0,.slice none 0 0]) (results_cell_row rfl _ _ w.heap.size 26 _ (0,0) _ rfl (heap_alloc_new w _) Tryz.underlying26 rfl infoJSON) rfl ⟨rfl,(Below.refl _ w).alloc (Nat.le_refl _) _⟩
theorem int_any (n:Int) (w:World):Calls Tryz.prog 56 #[.int .i64 n] w fun e w'=>e= .returned (.agg #[.int .u8 3,.bool false,.int .i64 n,.string ⟨#[]⟩,.slice none 0 0,.slice none 0 0])∧Below w.heap.size w w':=by
 go_enter Tryz.func56,Tryz.ntmps56;go_wp2;exact bodyPost_ret (v:= .agg #[.int .u8 3,.bool false,.int .i64 n,.string ⟨#[]⟩,.slice none 0 0,.slice none 0 0]) (results_cell_row rfl _ _ w.heap.size 26 _ (0,0) _ rfl (heap_alloc_new w _) Tryz.underlying26 rfl infoJSON) rfl ⟨rfl,(Below.refl _ w).alloc (Nat.le_refl _) _⟩
theorem str_any (s:ByteArray) (w:World):Calls Tryz.prog 22 #[.string s] w fun e w'=>e= .returned (.agg #[.int .u8 4,.bool false,.int .i64 0,.string s,.slice none 0 0,.slice none 0 0])∧Below w.heap.size w w':=by
 go_enter Tryz.func22,Tryz.ntmps22;go_wp2;exact bodyPost_ret (v:= .agg #[.int .u8 4,.bool false,.int .i64 0,.string s,.slice none 0 0,.slice none 0 0]) (results_cell_row rfl _ _ w.heap.size 26 _ (0,0) _ rfl (heap_alloc_new w _) Tryz.underlying26 rfl infoJSON) rfl ⟨rfl,(Below.refl _ w).alloc (Nat.le_refl _) _⟩
theorem half_any (c f:Int) (w:World) (hf:0≤f) (hf':f≤1000000):Calls Tryz.prog 257 #[.int .i32 c,.int .i32 f] w fun e w'=>e= .returned (.bool (decide (f≤c)&&decide (c<f+1024)))∧w'=w:=by
 by_cases h:f≤c
 · have d0:decide (f≤c)=true:=decide_eq_true h;obtain ⟨z,hz⟩:∃z,decide (c<f+1024)=z:=⟨_,rfl⟩;rw [d0,hz,Bool.true_and];go_enter Tryz.func257,Tryz.ntmps257;go_wp2_with fail;go_ret;exact ⟨rfl,rfl⟩
 · have d0:decide (f≤c)=false:=decide_eq_false h;rw [d0,Bool.false_and];go_enter Tryz.func257,Tryz.ntmps257;go_wp2_with fail;go_ret;exact ⟨rfl,rfl⟩
end Go.Proofs.YtohkomndapngjaaGreatDoor

