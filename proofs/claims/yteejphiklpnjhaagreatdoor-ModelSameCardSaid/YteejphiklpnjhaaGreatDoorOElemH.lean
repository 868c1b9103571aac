/- What is asked of an element that is read; the forms of items. -/
import Derived.Test.YteejphiklpnjhaaGreatDoorOFlow
import Derived.Test.YteejphiklpnjhaaGreatDoorOA2
import Derived.Test.YteejphiklpnjhaaGreatDoorMJ7
import Derived.Deep.RegionHeld3
namespace Go.Proofs.YteejphiklpnjhaaGreatDoor
set_option maxRecDepth 100000
set_option maxHeartbeats 16000000
open Go.RowKit Go.Maps
open Go.Lib (hid)
theorem fromDrew {w w' : World} (h : Below w.drew.heap.size w.drew w') : Below w.heap.size w w' := ((Below.refl _ w).drew).trans h
theorem ItHas.form {P : Nat → Prop} {w : World} {x : O.It} {cs : List Value} (h : ItHas w P x cs) : ∃ q a, cs = itC x (.pointer q) (.slice a 0 0) := by
 obtain ⟨fp, iv, rfl, h2, h3⟩ := h
 obtain ⟨q, rfl⟩ : ∃ q, fp = .pointer q := by
  rcases h2 with ⟨_, h⟩ | ⟨_, _, _, h, _⟩
  · exact ⟨_, h⟩
  · exact ⟨_, h⟩
 obtain ⟨a, rfl⟩ : ∃ a, iv = .slice a 0 0 := by
  rcases h3 with ⟨_, h⟩ | ⟨_, a, h⟩
  · exact ⟨_, h⟩
  · exact ⟨_, h⟩
 exact ⟨q, a, rfl⟩
def O.plainK (n : X.E) : Bool := decide (n.sp.data.toList = O.bpmnL) && (decide (n.lo.data.toList = [115, 101, 113, 117, 101, 110, 99, 101, 70, 108, 111, 119]) || (match X.lookG kindsL n.lo.data.toList with | some kd => decide (kd < 4) | none => false)) && decide (O.trim n.tx.data.toList = [])
structure NodeOk (W : World) (P : Nat → Prop) (n : X.E) (cs : List Value) : Prop where
 has : n.Has W P cs
 k : n.ks = .nil
 p : ∀ b, P b → b < W.heap.size
 e : EnvO W
 l : (X.E.as n).length ≤ 32
 s : ∀ x ∈ X.E.as n, x.lo.size ≤ 100000 ∧ x.va.size ≤ 100000
 t : n.tx.size ≤ 1000000000000
 o : n.lo.size ≤ 100000
end Go.Proofs.YteejphiklpnjhaaGreatDoor
