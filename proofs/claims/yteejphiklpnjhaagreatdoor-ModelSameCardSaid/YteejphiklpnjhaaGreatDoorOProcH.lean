/- What is asked of elements that are read; how a process is told. -/
import Derived.Test.YteejphiklpnjhaaGreatDoorOA3
import Derived.Test.YteejphiklpnjhaaGreatDoorOElemH
namespace Go.Proofs.YteejphiklpnjhaaGreatDoor
set_option maxRecDepth 100000
set_option maxHeartbeats 16000000
open Go.RowKit Go.Maps
open Go.Lib (hid)
theorem sizeProc : (Tryz.prog.info? 106).map (·.size) = some 4 := by kernel_rfl
theorem infoBind : (Tryz.prog.info? 51).map (fun i => (i.zero, i.size, i.bytes)) = some (some (.agg #[.string ⟨#[]⟩, .int .u8 0, .int .i64 0, .bool false, .string ⟨#[]⟩]), 5, 56) := by kernel_rfl
theorem infoItem : (Tryz.prog.info? 144).map (fun i => (i.zero, i.size, i.bytes)) = some (some (.agg #[.int .i64 0, .int .i64 0, .pointer none, .string ⟨#[]⟩, .string ⟨#[]⟩, .int .u8 0, .string ⟨#[]⟩, .string ⟨#[]⟩, .string ⟨#[]⟩, .int .u8 0, .string ⟨#[]⟩, .string ⟨#[]⟩, .int .i64 0, .int .i64 0, .string ⟨#[]⟩, .slice none 0 0]), 16, 208) := by kernel_rfl
def O.fitE (n : X.E) : Bool := decide ((X.E.as n).length ≤ 32) && (X.E.as n).all (fun x => decide (x.lo.size ≤ 100000 ∧ x.va.size ≤ 100000)) && decide (n.tx.size ≤ 1000000000000) && decide (n.lo.size ≤ 100000)
def O.noKids : X.N → Bool
 | .nil => true
 | _ => false
def O.fitN : X.N → Bool
 | .nil => true
 | .cons sp lo al ks tx ln cl r => O.noKids ks && O.fitE ⟨sp, lo, al, ks, tx, ln, cl⟩ && ((!decide (sp.data.toList = O.ownL) && O.plainK ⟨sp, lo, al, ks, tx, ln, cl⟩) || (O.isVar sp lo && O.intVar ⟨sp, lo, al, ks, tx, ln, cl⟩)) && O.fitN r
structure KidOk (W : World) (P : Nat → Prop) (n : X.E) (cs : List Value) : Prop where
 has : n.Has W P cs
 p : ∀ b, P b → b < W.heap.size
 e : EnvO W
 l : (X.E.as n).length ≤ 32
 s : ∀ x ∈ X.E.as n, x.lo.size ≤ 100000 ∧ x.va.size ≤ 100000
 t : n.tx.size ≤ 1000000000000
theorem fit_parts {n : X.E} (h : O.fitE n = true) : (X.E.as n).length ≤ 32 ∧ (∀ x ∈ X.E.as n, x.lo.size ≤ 100000 ∧ x.va.size ≤ 100000) ∧ n.tx.size ≤ 1000000000000 ∧ n.lo.size ≤ 100000 := by
 unfold O.fitE at h
 rw [Bool.and_eq_true, Bool.and_eq_true, Bool.and_eq_true] at h
 exact ⟨of_decide_eq_true h.1.1.1, fun x hx => of_decide_eq_true (List.all_eq_true.1 h.1.1.2 x hx), of_decide_eq_true h.1.2, of_decide_eq_true h.2⟩
theorem noKids_nil {ks : X.N} (h : O.noKids ks = true) : ks = .nil := by
 cases ks with
 | nil => rfl
 | cons => cases h
def PrOf (W0 : World) (x : Except O.Er O.Pr) (en : Ending) (W : World) : Prop :=
 (∃ p cs, x = .ok p ∧ en = .returned (.tuple #[.agg cs.toArray, .pointer none]) ∧ PrHas W (OwnG W W0.heap.size [tFlow, tItem, tBind]) p cs ∧ Below W0.heap.size W0 W) ∨ (∃ e, x = .error e ∧ FailOf W0 e zero4 en W)
theorem PL.done {W w : World} {H X0 : Nat} {cs : List Value} {s1 s2 : List UInt8} {t1 t2 : ByteArray} {va : List O.Va} {it : List O.It} {vv iv : Value} {ic : List Value} (h : PL W H cs X0 t1 t2 va it vv iv ic w) (h1 : X.ba s1 = t1) (h2 : X.ba s2 = t2) {x : Except O.Er O.Pr} (hx : x = .ok ⟨s1, s2, va, it⟩) :
   PrOf W x (.returned (.tuple #[.agg #[.string t1, .string t2, vv, iv], .pointer none])) (sts w (H + 1) 0 [.string t1, .string t2, vv, iv]) := by
 subst h1 h2
 obtain ⟨rs, _, hr⟩ := h.nb.r
 have k : KeepG w (sts w (H + 1) 0 [.string (X.ba s1), .string (X.ba s2), vv, iv]) [tFlow, tItem, tBind] := KeepG.grown (sts_grown _ w (H + 1) 0) hr (by decide)
 have hB : W.heap.size ≤ X0 + 1 := by have := h.nb.h; have := h.hx; omega
 refine Or.inl ⟨⟨s1, s2, va, it⟩, [.string (X.ba s1), .string (X.ba s2), vv, iv], hx, rfl, ⟨vv, iv, rfl, ?_, ?_⟩, by rw [h.nb.h]; exact h.nb.setB _⟩
 · exact (vas_own h.vo).keep (fun b hb => ((hb.keep (k.sub (by decide))).1.sub (by decide) hB)) (fun b hb => (hb.keep (k.sub (by decide))).2)
 · exact (its_own h.io h.ii).keep (fun b hb => ((hb.keep (k.sub (by decide))).1.sub (by decide) hB)) (fun b hb => (hb.keep (k.sub (by decide))).2)
end Go.Proofs.YteejphiklpnjhaaGreatDoor
