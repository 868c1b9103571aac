/- A region that draws its order, in whose calls and loads a class of worlds is kept: walked in the order of the text. -/
import Derived.RowKit
import Derived.Deep.QuietTactic
namespace Go.Proofs.YtfadnhihcobclaaDoor
open Go.RowKit
theorem q_start {P : Program} {C : World → Prop} {id : Nat} {Q : Exit → Act → World → Prop} {a : Act} {w : World} {l : List Oper} (hm : P.follows .mixedOrders = true) (hB : Region.lexB .any l.toArray = true) (hC : C w.drew)
    (h : wpQuiet P l.toArray C (fun a' => ∀ w', C w' → Q .normal a' w') l a) : (Code.region id l.toArray true).wp P Q a w :=
  wp_region_quiet (C := C) hm hB hC (by simpa using h)
section
variable {P : Program} {ops : Array Oper} {C : World → Prop} {Q : Act → Prop} {o : Oper} {rest : List Oper} {a : Act} {x : Value} {f : FuncId} {args : Array Value}
theorem q_skip (hw : Region.wanted o (yielded ops a.tmps) = false) (h : wpQuiet P ops C Q rest (a.put o.dst undef)) : wpQuiet P ops C Q (o :: rest) a :=
  wpQuiet_step fun K hK => by rw [if_neg (by rw [hw]; exact Bool.false_ne_true)]; exact hK _ h
theorem q_val (hw : Region.wanted o (yielded ops a.tmps) = true) (h : ∀ v, C v → (execOp a.eval o).run P v = .ok (.value x) v) (k : wpQuiet P ops C Q rest (a.put o.dst x)) : wpQuiet P ops C Q (o :: rest) a :=
  wpQuiet_step fun K hK => by
    rw [if_pos hw]
    exact ⟨x, fun v hC => by unfold Oper.quietAt; rw [h v hC]; exact ⟨rfl, rfl⟩, hK _ k⟩
theorem q_call (hw : Region.wanted o (yielded ops a.tmps) = true) (h : ∀ v, C v → (execOp a.eval o).run P v = .ok (.enter f args) v) (c : ∀ v, C v → Calls P f args v fun e w'' => e = .returned x ∧ C w'')
    (k : wpQuiet P ops C Q rest (a.put o.dst x)) : wpQuiet P ops C Q (o :: rest) a :=
  wpQuiet_step fun K hK => by
    rw [if_pos hw]
    exact ⟨x, fun v hC => by unfold Oper.quietAt; rw [h v hC]; exact ⟨rfl, c v hC⟩, hK _ k⟩
end
end Go.Proofs.YtfadnhihcobclaaDoor
