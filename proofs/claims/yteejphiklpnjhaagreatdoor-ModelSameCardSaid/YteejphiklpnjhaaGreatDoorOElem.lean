/- An element that holds nothing. -/
import Derived.Test.YteejphiklpnjhaaGreatDoorOElemA
import Derived.Test.YteejphiklpnjhaaGreatDoorOElemB
namespace Go.Proofs.YteejphiklpnjhaaGreatDoor
set_option maxRecDepth 100000
set_option maxHeartbeats 16000000
open Go.RowKit Go.Maps
open Go.Lib (hid)
theorem elem_eq {n : X.E} {kd : Nat} (hs : n.sp.data.toList = O.bpmnL) (hf : ¬ n.lo.data.toList = [115, 101, 113, 117, 101, 110, 99, 101, 70, 108, 111, 119]) (hk : X.lookG kindsL n.lo.data.toList = some kd) :
   O.elem n = match plainE n with | some e => .error e | none => match O.read (O.rules (decide (n.lo.data.toList = O.callL)) kd) (X.E.as n) with
    | .error e => .error (e, n.ln, n.cl)
    | .ok g => .ok ⟨n.ln, n.cl, none, ⟨O.get g [105, 100], O.get g [110, 97, 109, 101], kd, [], O.get g [100, 101, 102, 97, 117, 108, 116], O.get g [97, 116, 116, 97, 99, 104, 101, 100, 84, 111, 82, 101, 102], if kd = 4 then (X.lookG g.nums [58, 116, 114, 105, 101, 115]).getD 1 else 0⟩, O.get g [99, 97, 108, 108, 101, 100, 69, 108, 101, 109, 101, 110, 116], decide (n.lo.data.toList = O.callL)⟩ := by
 unfold O.elem plainE
 rw [if_neg (fun h => hf h.2), kindOf_eq, hk]
 simp only []
 rw [if_neg (not_not_intro hs)]
 by_cases h : O.trim n.tx.data.toList ≠ []
 · rw [if_pos h, if_pos h]
 · rw [if_neg h, if_neg h]
   rfl
theorem elem_any {P : Nat → Prop} {W : World} {n : X.E} {cs : List Value} (ok : NodeOk W P n cs) (hq : O.plainK n = true) :
   Calls Tryz.prog 68 #[.agg cs.toArray] W (ItOf W (O.elem n)) := by
 unfold O.plainK at hq
 rw [Bool.and_eq_true, Bool.and_eq_true] at hq
 obtain ⟨⟨hs, hq⟩, ht⟩ := hq
 have hs := of_decide_eq_true hs
 have ht := of_decide_eq_true ht
 have q1 : (n.sp.toList == [104, 116, 116, 112, 58, 47, 47, 119, 119, 119, 46, 111, 109, 103, 46, 111, 114, 103, 47, 115, 112, 101, 99, 47, 66, 80, 77, 78, 47, 50, 48, 49, 48, 48, 53, 50, 52, 47, 77, 79, 68, 69, 76]) = true := by rw [Lib.toList_data]; exact beq_iff_eq.2 hs
 by_cases hf : n.lo.data.toList = [115, 101, 113, 117, 101, 110, 99, 101, 70, 108, 111, 119]
 · refine elem_flow ok q1 (by rw [Lib.toList_data]; exact beq_iff_eq.2 hf) ?_
   unfold O.elem
   rw [if_pos ⟨hs, hf⟩]
 · have q2 : (n.lo.toList == [115, 101, 113, 117, 101, 110, 99, 101, 70, 108, 111, 119]) = false := by rw [Lib.toList_data]; exact beq_eq_false_iff_ne.2 hf
   rcases hk : X.lookG kindsL n.lo.data.toList with _ | kd
   · rw [hk] at hq
     simp [hf] at hq
   · have h4 : kd < 4 := by rw [hk] at hq; simpa [hf] using hq
     have he := elem_eq hs hf hk
     have hp : plainE n = none := by unfold plainE; rw [if_neg (fun h => h ht)]
     rw [hp] at he
     simp only [] at he
     have hc : ¬ n.lo.data.toList = O.callL := fun hc => by
       rw [hc] at hk
       have h10 := Option.some.inj ((show X.lookG kindsL O.callL = some 10 from rfl).symm.trans hk)
       omega
     rw [decide_eq_false hc] at he
     have q3 : (n.lo.toList == [99, 97, 108, 108, 65, 99, 116, 105, 118, 105, 116, 121]) = false := by rw [Lib.toList_data]; exact beq_eq_false_iff_ne.2 hc
     have hrs : O.rules false kd = O.baseRules := by
       unfold O.rules
       rw [if_neg (by simp), if_neg (by omega), if_neg (by omega), if_neg (by omega)]
     rw [hrs] at he
     simp only [if_neg (show ¬ kd = 4 by omega)] at he
     refine elem_rest ok q1 q2 hk ?_ ?_ ?_ ?_ q3 hp he
     · exact beq_eq_false_iff_ne.2 (by omega)
     · exact beq_eq_false_iff_ne.2 (by omega)
     · exact beq_eq_false_iff_ne.2 (by omega)
     · exact bne_iff_ne.2 (by omega)
end Go.Proofs.YteejphiklpnjhaaGreatDoor
