/- A region that draws its order, in whose calls and loads a class of worlds is kept: walked in the order of the text. -/
import Derived.ProofKit
import Derived.BigQuiet
namespace Go.Proofs.YtakplnceiibmlaaGreatDoor
open Go.RowKit
theorem quiet_lit {P : Program} {C : World → Prop} {id : Nat} {Q : Exit → Act → World → Prop} {a : Act} {w : World} {l : List Oper} (hm : P.follows .mixedOrders = true) (hB : Region.lexB .any l.toArray = true) (hC : C w.drew)
    (h : wpQuiet P l.toArray C (fun a' => ∀ w', C w' → Q .normal a' w') l a) : (Code.region id l.toArray true).wp P Q a w :=
  wp_region_quiet (C := C) hm hB hC (by simpa using h)
theorem quiet_val {P : Program} {C : World → Prop} {o : Oper} {a : Act} {K : Act → Prop} {x : Value} (h : ∀ v, C v → (execOp a.eval o).run P v = .ok (.value x) v) (k : K (a.put o.dst x)) : o.quiet P a C K :=
  ⟨x, fun v hC => by unfold Oper.quietAt; rw [h v hC]; exact ⟨rfl, rfl⟩, k⟩
theorem quiet_call {P : Program} {C : World → Prop} {o : Oper} {a : Act} {K : Act → Prop} {x : Value} {f : FuncId} {args : Array Value} (h : ∀ v, C v → (execOp a.eval o).run P v = .ok (.enter f args) v)
    (c : ∀ v, C v → Calls P f args v fun e w'' => e = .returned x ∧ C w'') (k : K (a.put o.dst x)) : o.quiet P a C K :=
  ⟨x, fun v hC => by unfold Oper.quietAt; rw [h v hC]; exact ⟨rfl, c v hC⟩, k⟩
end Go.Proofs.YtakplnceiibmlaaGreatDoor
