/- name, key, worker, many, ticks: the setters of a deed's fields. -/
import Derived.Test.YtohkomndapngjaaGreatDoorRC20
namespace Go.Proofs.YtohkomndapngjaaGreatDoor
set_option maxRecDepth 100000
set_option maxHeartbeats 16000000
open Go.RowKit
open Go.Lib (hid)
structure Sx (W:World) (A:Nat) (c6 c7 c8 c10 c11 c12:Value) (K:Nat) (id:Int):Prop where
 h:W.heap[A]? =some (.cells #[.int .u8 K,.string ⟨#[]⟩,.string ⟨#[]⟩,.slice none 0 0,.slice none 0 0,.slice none 0 0,c6,c7,c8,.int .i64 id,c10,c11,c12,.int .u8 0,.string ⟨#[]⟩,.int .i64 0] 39 (0,0))
theorem Sx.below {W W':World}{A K:Nat}{c6 c7 c8 c10 c11 c12:Value}{id:Int}(h:Sx W A c6 c7 c8 c10 c11 c12 K id) (hb:Below W.heap.size W W'):Sx W' A c6 c7 c8 c10 c11 c12 K id:=⟨(hb.block A (Go.lt_of_block h.h)).trans h.h⟩
theorem set_name (k:Int) (b:Bool) (n:Int) (s:ByteArray) (lv nv:Value) (w:World) (A K:Nat) (id:Int) (c6 c7 c8 c10 c11 c12:Value) (h:Sx w A c6 c7 c8 c10 c11 c12 K id) (la:Option Addr) (ln lc:Nat) (na:Option Addr) (nn nc:Nat) (hl:lv= .slice la ln lc) (hn:nv= .slice na nn nc):
  Calls Tryz.prog 116 #[.pointer (some ⟨A,0,none⟩),.agg #[.int .u8 k,.bool b,.int .i64 n,.string s,lv,nv]] w fun e W=>e= .returned (.bool true)∧Sx W A (.string s) c7 c8 c10 c11 c12 K id∧w.grownBy W (some A):=by
 subst hl hn;obtain ⟨w0,hw0⟩:∃w0,w.alloc (.cells #[.int .u8 k,.bool b,.int .i64 n,.string s,.slice la ln lc,.slice na nn nc] 26)=w0:=⟨_,rfl⟩;obtain ⟨X,hX⟩:∃X,w.heap.size=X:=⟨_,rfl⟩;have hv0:w0.heap[X]? =some (.cells #[.int .u8 k,.bool b,.int .i64 n,.string s,.slice la ln lc,.slice na nn nc] 26 (0,0)):=by rw [←hw0,←hX];exact heap_alloc_new w _
 have hb:Below w.heap.size w w0:=by rw [←hw0];exact (Below.refl _ w).alloc (Nat.le_refl _) _
 have h0:=h.below hb;have HS:=hid h0;have HG:Hid (w.grownBy w0 (some A)):=by show w.grownBy _ _;rw [←hw0];exact World.grownBy_alloc w _ _
 obtain ⟨x0,x1,x2,x3,x4,x5⟩:=x6_of hv0;have z:w0.cell? ⟨A,6,none⟩=some c6:=rowCell h0.h 6;have f:=rowFree h0.h 6;have HW0:=hid hw0;have HX:=hid hX;clear hw0 hX hv0 hb h h0;go_enter Tryz.func116,Tryz.ntmps116;go_upto_region 1 with fail;rw [HW0.out,HX.out];clear HW0 HX;go_wp2_with fail;go_ret;exact ⟨rfl,⟨row_set HS.out.h 6 (.string s)⟩,HG.out.trans (grownBy_set _ _ _ _)⟩
theorem set_key (k:Int) (b:Bool) (n:Int) (s:ByteArray) (lv nv:Value) (w:World) (A K:Nat) (id:Int) (c6 c7 c8 c10 c11 c12:Value) (h:Sx w A c6 c7 c8 c10 c11 c12 K id) (la:Option Addr) (ln lc:Nat) (na:Option Addr) (nn nc:Nat) (hl:lv= .slice la ln lc) (hn:nv= .slice na nn nc):
  Calls Tryz.prog 120 #[.pointer (some ⟨A,0,none⟩),.agg #[.int .u8 k,.bool b,.int .i64 n,.string s,lv,nv]] w fun e W=>e= .returned (.bool true)∧Sx W A c6 (.string s) c8 c10 c11 c12 K id∧w.grownBy W (some A):=by
 subst hl hn;obtain ⟨w0,hw0⟩:∃w0,w.alloc (.cells #[.int .u8 k,.bool b,.int .i64 n,.string s,.slice la ln lc,.slice na nn nc] 26)=w0:=⟨_,rfl⟩;obtain ⟨X,hX⟩:∃X,w.heap.size=X:=⟨_,rfl⟩;have hv0:w0.heap[X]? =some (.cells #[.int .u8 k,.bool b,.int .i64 n,.string s,.slice la ln lc,.slice na nn nc] 26 (0,0)):=by rw [←hw0,←hX];exact heap_alloc_new w _
 have hb:Below w.heap.size w w0:=by rw [←hw0];exact (Below.refl _ w).alloc (Nat.le_refl _) _
 have h0:=h.below hb;have HS:=hid h0;have HG:Hid (w.grownBy w0 (some A)):=by show w.grownBy _ _;rw [←hw0];exact World.grownBy_alloc w _ _
 obtain ⟨x0,x1,x2,x3,x4,x5⟩:=x6_of hv0;have z:w0.cell? ⟨A,7,none⟩=some c7:=rowCell h0.h 7;have f:=rowFree h0.h 7;have HW0:=hid hw0;have HX:=hid hX;clear hw0 hX hv0 hb h h0;go_enter Tryz.func120,Tryz.ntmps120;go_upto_region 1 with fail;rw [HW0.out,HX.out];clear HW0 HX;go_wp2_with fail;go_ret;exact ⟨rfl,⟨row_set HS.out.h 7 (.string s)⟩,HG.out.trans (grownBy_set _ _ _ _)⟩
theorem set_worker (k:Int) (b:Bool) (n:Int) (s:ByteArray) (lv nv:Value) (w:World) (A K:Nat) (id:Int) (c6 c7 c8 c10 c11 c12:Value) (h:Sx w A c6 c7 c8 c10 c11 c12 K id) (la:Option Addr) (ln lc:Nat) (na:Option Addr) (nn nc:Nat) (hl:lv= .slice la ln lc) (hn:nv= .slice na nn nc):
  Calls Tryz.prog 117 #[.pointer (some ⟨A,0,none⟩),.agg #[.int .u8 k,.bool b,.int .i64 n,.string s,lv,nv]] w fun e W=>e= .returned (.bool true)∧Sx W A c6 c7 (.string s) c10 c11 c12 K id∧w.grownBy W (some A):=by
 subst hl hn;obtain ⟨w0,hw0⟩:∃w0,w.alloc (.cells #[.int .u8 k,.bool b,.int .i64 n,.string s,.slice la ln lc,.slice na nn nc] 26)=w0:=⟨_,rfl⟩;obtain ⟨X,hX⟩:∃X,w.heap.size=X:=⟨_,rfl⟩;have hv0:w0.heap[X]? =some (.cells #[.int .u8 k,.bool b,.int .i64 n,.string s,.slice la ln lc,.slice na nn nc] 26 (0,0)):=by rw [←hw0,←hX];exact heap_alloc_new w _
 have hb:Below w.heap.size w w0:=by rw [←hw0];exact (Below.refl _ w).alloc (Nat.le_refl _) _
 have h0:=h.below hb;have HS:=hid h0;have HG:Hid (w.grownBy w0 (some A)):=by show w.grownBy _ _;rw [←hw0];exact World.grownBy_alloc w _ _
 obtain ⟨x0,x1,x2,x3,x4,x5⟩:=x6_of hv0;have z:w0.cell? ⟨A,8,none⟩=some c8:=rowCell h0.h 8;have f:=rowFree h0.h 8;have HW0:=hid hw0;have HX:=hid hX;clear hw0 hX hv0 hb h h0;go_enter Tryz.func117,Tryz.ntmps117;go_upto_region 1 with fail;rw [HW0.out,HX.out];clear HW0 HX;go_wp2_with fail;go_ret;exact ⟨rfl,⟨row_set HS.out.h 8 (.string s)⟩,HG.out.trans (grownBy_set _ _ _ _)⟩
theorem set_many (k:Int) (b:Bool) (n:Int) (s:ByteArray) (lv nv:Value) (w:World) (A K:Nat) (id:Int) (c6 c7 c8 c10 c11 c12:Value) (h:Sx w A c6 c7 c8 c10 c11 c12 K id) (la:Option Addr) (ln lc:Nat) (na:Option Addr) (nn nc:Nat) (hl:lv= .slice la ln lc) (hn:nv= .slice na nn nc):
  Calls Tryz.prog 118 #[.pointer (some ⟨A,0,none⟩),.agg #[.int .u8 k,.bool b,.int .i64 n,.string s,lv,nv]] w fun e W=>e= .returned (.bool true)∧Sx W A c6 c7 c8 (.int .i64 n) c11 c12 K id∧w.grownBy W (some A):=by
 subst hl hn;obtain ⟨w0,hw0⟩:∃w0,w.alloc (.cells #[.int .u8 k,.bool b,.int .i64 n,.string s,.slice la ln lc,.slice na nn nc] 26)=w0:=⟨_,rfl⟩;obtain ⟨X,hX⟩:∃X,w.heap.size=X:=⟨_,rfl⟩;have hv0:w0.heap[X]? =some (.cells #[.int .u8 k,.bool b,.int .i64 n,.string s,.slice la ln lc,.slice na nn nc] 26 (0,0)):=by rw [←hw0,←hX];exact heap_alloc_new w _
 have hb:Below w.heap.size w w0:=by rw [←hw0];exact (Below.refl _ w).alloc (Nat.le_refl _) _
 have h0:=h.below hb;have HS:=hid h0;have HG:Hid (w.grownBy w0 (some A)):=by show w.grownBy _ _;rw [←hw0];exact World.grownBy_alloc w _ _
 obtain ⟨x0,x1,x2,x3,x4,x5⟩:=x6_of hv0;have z:w0.cell? ⟨A,10,none⟩=some c10:=rowCell h0.h 10;have f:=rowFree h0.h 10;have HW0:=hid hw0;have HX:=hid hX;clear hw0 hX hv0 hb h h0;go_enter Tryz.func118,Tryz.ntmps118;go_upto_region 1 with fail;rw [HW0.out,HX.out];clear HW0 HX;go_wp2_with fail;go_ret;exact ⟨rfl,⟨row_set HS.out.h 10 (.int .i64 n)⟩,HG.out.trans (grownBy_set _ _ _ _)⟩
theorem set_ticks (k:Int) (b:Bool) (n:Int) (s:ByteArray) (lv nv:Value) (w:World) (A K:Nat) (id:Int) (c6 c7 c8 c10 c11 c12:Value) (h:Sx w A c6 c7 c8 c10 c11 c12 K id) (la:Option Addr) (ln lc:Nat) (na:Option Addr) (nn nc:Nat) (hl:lv= .slice la ln lc) (hn:nv= .slice na nn nc):
  Calls Tryz.prog 119 #[.pointer (some ⟨A,0,none⟩),.agg #[.int .u8 k,.bool b,.int .i64 n,.string s,lv,nv]] w fun e W=>e= .returned (.bool true)∧Sx W A c6 c7 c8 c10 (.int .i64 n) c12 K id∧w.grownBy W (some A):=by
 subst hl hn;obtain ⟨w0,hw0⟩:∃w0,w.alloc (.cells #[.int .u8 k,.bool b,.int .i64 n,.string s,.slice la ln lc,.slice na nn nc] 26)=w0:=⟨_,rfl⟩;obtain ⟨X,hX⟩:∃X,w.heap.size=X:=⟨_,rfl⟩;have hv0:w0.heap[X]? =some (.cells #[.int .u8 k,.bool b,.int .i64 n,.string s,.slice la ln lc,.slice na nn nc] 26 (0,0)):=by rw [←hw0,←hX];exact heap_alloc_new w _
 have hb:Below w.heap.size w w0:=by rw [←hw0];exact (Below.refl _ w).alloc (Nat.le_refl _) _
 have h0:=h.below hb;have HS:=hid h0;have HG:Hid (w.grownBy w0 (some A)):=by show w.grownBy _ _;rw [←hw0];exact World.grownBy_alloc w _ _
 obtain ⟨x0,x1,x2,x3,x4,x5⟩:=x6_of hv0;have z:w0.cell? ⟨A,11,none⟩=some c11:=rowCell h0.h 11;have f:=rowFree h0.h 11;have HW0:=hid hw0;have HX:=hid hX;clear hw0 hX hv0 hb h h0;go_enter Tryz.func119,Tryz.ntmps119;go_upto_region 1 with fail;rw [HW0.out,HX.out];clear HW0 HX;go_wp2_with fail;go_ret;exact ⟨rfl,⟨row_set HS.out.h 11 (.int .i64 n)⟩,HG.out.trans (grownBy_set _ _ _ _)⟩
end Go.Proofs.YtohkomndapngjaaGreatDoor

