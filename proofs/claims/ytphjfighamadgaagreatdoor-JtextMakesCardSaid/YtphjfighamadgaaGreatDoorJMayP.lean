/- may: the walk, its small laws. -/
import Derived.Test.YtphjfighamadgaaGreatDoorJMay
namespace Go.Proofs.YtphjfighamadgaaGreatDoor
open Go.RowKit Go.Maps
open Go.Lib (hid validD)
theorem may_no1 {k : Nat} {b : Bool} {n : Int} {s : ByteArray} {l : J.T} {ns : List ByteArray} (h : J.plainOk k b n s = false) : (⟨k, b, n, s, l, ns⟩ : J.V).may = false := by
  unfold J.V.may J.flat; rw [h]; rfl
theorem may_no2 {k : Nat} {b : Bool} {n : Int} {s : ByteArray} {l : J.T} {ns : List ByteArray} (h : J.listOk k l.length ns.length = false) : (⟨k, b, n, s, l, ns⟩ : J.V).may = false := by
  unfold J.V.may J.flat
  simp only
  rw [h]; simp
theorem may_yes {k : Nat} {b : Bool} {n : Int} {s : ByteArray} {l : J.T} {ns : List ByteArray} (h1 : J.plainOk k b n s = true) (h2 : J.listOk k l.length ns.length = true) : (⟨k, b, n, s, l, ns⟩ : J.V).may = (validD s.data.toList && (J.namesOk [] ns && J.mayT l)) := by
  unfold J.V.may J.flat
  simp only
  rw [h1, h2, Bool.true_and, Bool.true_and, Bool.and_assoc]
end Go.Proofs.YtphjfighamadgaaGreatDoor
