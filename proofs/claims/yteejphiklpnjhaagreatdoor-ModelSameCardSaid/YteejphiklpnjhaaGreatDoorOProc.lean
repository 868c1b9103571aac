/- A process is read. -/
import Derived.Test.YteejphiklpnjhaaGreatDoorOProcA
import Derived.Test.YteejphiklpnjhaaGreatDoorOProcB
namespace Go.Proofs.YteejphiklpnjhaaGreatDoor
set_option maxRecDepth 100000
set_option maxHeartbeats 16000000
open Go.RowKit Go.Maps
open Go.Lib (hid)
theorem proc_eq {n : X.E} {l : List O.Pr} (hs : n.sp.data.toList = O.bpmnL) (hf : n.lo.data.toList = [112, 114, 111, 99, 101, 115, 115]) :
   O.proc n l = match plainE n with | some e => .error e | none => match O.read O.procRules (X.E.as n) with
    | .error e => .error (e, n.ln, n.cl)
    | .ok g => if l.any (fun q => decide (q.id = O.get g [105, 100])) then .error (6, n.ln, n.cl) else match O.things n.ks [] [] with
      | .error e => .error e
      | .ok (v, i) => .ok ⟨O.get g [105, 100], O.get g [110, 97, 109, 101], v, i⟩ := by
 unfold O.proc plainE
 rw [if_neg (by rintro (h | h); exact h hs; exact h hf)]
 by_cases h : O.trim n.tx.data.toList ≠ []
 · rw [if_pos h, if_pos h]
 · rw [if_neg h, if_neg h]
   rfl
theorem proc_any {P Pa : Nat → Prop} {W : World} {n : X.E} {cs : List Value} {l : List O.Pr} {lv : Value} (ok : KidOk W P n cs) (hks : O.fitN n.ks = true) (hkl : n.ks.length ≤ 2000) (hlv : PrsIn W Pa l lv) (hPa : ∀ b, Pa b → b < W.heap.size) (hll : l.length ≤ 100000) :
   Calls Tryz.prog 43 #[.agg cs.toArray, lv] W (PrOf W (O.proc n l)) := by
 by_cases hs : n.sp.data.toList = O.bpmnL
 · have q1 : (n.sp.toList == [104, 116, 116, 112, 58, 47, 47, 119, 119, 119, 46, 111, 109, 103, 46, 111, 114, 103, 47, 115, 112, 101, 99, 47, 66, 80, 77, 78, 47, 50, 48, 49, 48, 48, 53, 50, 52, 47, 77, 79, 68, 69, 76]) = true := by rw [Lib.toList_data]; exact beq_iff_eq.2 hs
   by_cases hf : n.lo.data.toList = [112, 114, 111, 99, 101, 115, 115]
   · have q2 : (n.lo.toList == [112, 114, 111, 99, 101, 115, 115]) = true := by rw [Lib.toList_data]; exact beq_iff_eq.2 hf
     have he := proc_eq (l := l) hs hf
     rcases hp : plainE n with _ | e
     · rw [hp] at he
       exact proc_ok ok hks hkl hlv hPa hll q1 q2 hp he
     · rw [hp] at he
       exact proc_text ok q1 q2 hp he
   · have q2 : (n.lo.toList == [112, 114, 111, 99, 101, 115, 115]) = false := by rw [Lib.toList_data]; exact beq_eq_false_iff_ne.2 hf
     refine proc_far2 ok q1 q2 ?_
     unfold O.proc
     rw [if_pos (Or.inr hf)]
 · have q1 : (n.sp.toList == [104, 116, 116, 112, 58, 47, 47, 119, 119, 119, 46, 111, 109, 103, 46, 111, 114, 103, 47, 115, 112, 101, 99, 47, 66, 80, 77, 78, 47, 50, 48, 49, 48, 48, 53, 50, 52, 47, 77, 79, 68, 69, 76]) = false := by rw [Lib.toList_data]; exact beq_eq_false_iff_ne.2 hs
   refine proc_far1 ok q1 ?_
   unfold O.proc
   rw [if_pos (Or.inl hs)]
end Go.Proofs.YteejphiklpnjhaaGreatDoor
