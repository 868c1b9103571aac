/- sync.Once over the replacer: made, built once, used. -/
import Derived.Test.YtakplnceiibmlaaGreatDoorMRepA
namespace Go.Proofs.YtakplnceiibmlaaGreatDoor
open Go.RowKit
open Go.Lib (hid)
def repRow (d l : Int) (q r o : Value) : Array Value := #[.int .u32 d, .int .i32 l, q, r, o]
theorem grown_set {w : World} {R : Nat} (i : Nat) (v : Value) : w.grownBy (w.setCell ⟨R, i, none⟩ v) (some R) :=
  ⟨rfl, rfl, rfl, by rw [ssz]; exact Nat.le_refl _, fun k _ hk => Below.heap_setCell w ⟨R, i, none⟩ v k (fun e => hk (by rw [e]))⟩
theorem grown_below {w w' : World} {R : Nat} (h : Below w.heap.size w w') : w.grownBy w' (some R) := ⟨h.os, h.tape, h.output, h.size, fun k hk _ => h.block k hk⟩
theorem grown_drew {w w' : World} {R : Option Nat} (h : w.grownBy w' R) : w.grownBy w'.drew R := ⟨h.os, h.tape, h.output, h.size, h.block⟩
structure Built (W W' : World) (R : Nat) (d l : Int) (q : Value) : Prop where
  grown : W.grownBy W' (some R)
  done : ∃ T L, W'.heap[R]? = some (.cells (repRow d l q (.iface 159 (.pointer (some ⟨T, 0, none⟩))) (.slice none 0 0)) 99 (0, 0)) ∧ TabAt W.heap.size W' T L 7
set_option maxRecDepth 100000 in
set_option maxHeartbeats 4000000 in
theorem buildOnce_any (R O oc : Nat) (d l : Int) (q : Value) (W : World) (hR : W.heap[R]? = some (.cells (repRow d l q .nilIface (.slice (some ⟨O, 0, none⟩) 14 oc)) 99 (0, 0))) (hO : ∀ j, j < 14 → W.cell? ⟨O, j, none⟩ = strs14[j]?) :
    Calls Tryz.prog 43 #[.pointer (some ⟨R, 0, none⟩)] W fun en W' => en = .returned (.tuple #[]) ∧ Built W W' R d l q := by
  have hRl : R < W.heap.size := Go.lt_of_block hR
  have cB := build_any R O oc W (rowCell hR 4) hO
  have HR := hid hR
  clear hR hO
  go_enter Tryz.func43, Tryz.ntmps43
  go_wp2_with fail
  refine cB.mono ?_
  rintro e w1 ⟨⟨T, L, rfl, hT⟩, hb⟩
  have hR1 : w1.heap[R]? = some (.cells (repRow d l q .nilIface (.slice (some ⟨O, 0, none⟩) 14 oc)) 99 (0, 0)) := (hb.block R hRl).trans HR.out
  have c3 : w1.cell? ⟨R, 3, none⟩ = some .nilIface := rowCell hR1 3
  have c4 : w1.cell? ⟨R, 4, none⟩ = some (.slice (some ⟨O, 0, none⟩) 14 oc) := rowCell hR1 4
  have f3 : w1.frozen? ⟨R, 3, none⟩ = false := rowFree hR1 3
  have f4 : w1.frozen? ⟨R, 4, none⟩ = false := rowFree hR1 4
  have HX := hid (And.intro hT (And.intro hb hR1))
  clear hT hb hR1 cB
  go_wp2_with fail
  go_end0
  refine ⟨rfl, ?_, T, L, ?_, ?_⟩
  · exact (grown_below HX.out.2.1).trans ((grown_set 3 _).trans (grown_set 4 _))
  · exact row_set (row_set HX.out.2.2 3 _) 4 _
  · exact (HX.out.1.far (grown_set 3 _) hRl).far (grown_set 4 _) hRl
end Go.Proofs.YtakplnceiibmlaaGreatDoor
namespace Go.Proofs.YtakplnceiibmlaaGreatDoor
open Go.RowKit
open Go.Lib (hid)
set_option maxRecDepth 100000 in
set_option maxHeartbeats 4000000 in
theorem doSlow_any (R O oc : Nat) (q : Value) (W : World) (hR : W.heap[R]? = some (.cells (repRow 0 0 q .nilIface (.slice (some ⟨O, 0, none⟩) 14 oc)) 99 (0, 0))) (hOR : O ≠ R) (hO : ∀ j, j < 14 → W.cell? ⟨O, j, none⟩ = strs14[j]?) :
    Calls Tryz.prog 64 #[.pointer (some ⟨R, 0, none⟩), .func (.func 43) #[.pointer (some ⟨R, 0, none⟩)] #[]] W fun en W' => en = .returned (.tuple #[]) ∧ Built W W' R 1 0 q := by
  have hRl : R < W.heap.size := Go.lt_of_block hR
  have hR1 := row_set hR 1 (.int .i32 1)
  have hO1 : ∀ j, j < 14 → (W.setCell ⟨R, 1, none⟩ (.int .i32 1)).cell? ⟨O, j, none⟩ = strs14[j]? := fun j hj => (World.cell?_setCell_other _ ⟨R, 1, none⟩ ⟨O, j, none⟩ _ (by intro h; exact hOR (congrArg Addr.block h).symm)).trans (hO j hj)
  have cB := buildOnce_any R O oc 0 1 q (W.setCell ⟨R, 1, none⟩ (.int .i32 1)) hR1 hO1
  have cL := sy_lock ⟨R, 1, none⟩ W (rowCell hR 1) (rowFree hR 1)
  have cD := sy_load ⟨R, 0, none⟩ 0 (W.setCell ⟨R, 1, none⟩ (.int .i32 1)) (rowCell hR1 0)
  have hnot : ∀ (x : Bool) (w : World), (Op.unary .not (.bool x)).run Tryz.prog w = .ok (.bool (!x)) w := fun _ _ => rfl
  have HR := hid (And.intro hR hR1)
  clear hR hR1 hO hO1
  go_enter_defers Tryz.func64, Tryz.ntmps64
  go_wp2_with fail
  refine cL.mono ?_
  rintro e w1 ⟨rfl, rfl⟩
  go_wp2_with fail
  refine cD.mono ?_
  rintro e w1 ⟨rfl, rfl⟩
  go_wp2_with fail
  refine cB.mono ?_
  rintro e w2 ⟨rfl, hB⟩
  clear cL cD cB
  go_wp2_with fail
  obtain ⟨T, L, hT, hTab⟩ := hB.done
  have h0 := rowCell hT 0
  have f0 := rowFree hT 0
  refine leaves_cons (f := 84) (args := #[.pointer (some ⟨R, 0, none⟩), .bool true]) (by simp) (by simp [go_sem]) ?_
  refine (sy_store ⟨R, 0, none⟩ (.int .u32 0) .returning _ h0 f0).mono ?_
  rintro e u' w3 ⟨rfl, rfl, rfl⟩
  have hT3 := row_set (w := w2.drew) (b := R) hT 0 (.int .u32 1)
  refine leaves_cons (f := 83) (args := #[.pointer (some ⟨R, 1, none⟩)]) (by simp [settle]) (by simp [go_sem]) ?_
  refine (sy_unlock ⟨R, 1, none⟩ _ _ (rowCell hT3 1) (rowFree hT3 1)).mono ?_
  rintro e u' w4 ⟨rfl, rfl, rfl⟩
  have hT4 := row_set hT3 1 (.int .i32 0)
  have g1 := (grown_set (w := W) (R := R) 1 (.int .i32 1)).trans hB.grown
  have g4 := (grown_drew g1).trans ((grown_set 0 (.int .u32 1)).trans (grown_set 1 (.int .i32 0)))
  have ht1 : TabAt W.heap.size w2 T L 7 := by rw [ssz] at hTab; exact hTab
  have hz := (ht1.far (grown_drew (World.grownBy.refl w2 (some R))) hRl).far ((grown_set 0 (.int .u32 1)).trans (grown_set 1 (.int .i32 0))) hRl
  have hfin : Built W ((w2.drew.setCell ⟨R, 0, none⟩ (.int .u32 1)).setCell ⟨R, 1, none⟩ (.int .i32 0)) R 1 0 q := ⟨g4, T, L, hT4, hz⟩
  simp only [Leaves, settle, results, Tryz.results64]
  first | exact ⟨rfl, hfin⟩ | (simp; exact hfin)
end Go.Proofs.YtakplnceiibmlaaGreatDoor
namespace Go.Proofs.YtakplnceiibmlaaGreatDoor
open Go.RowKit
open Go.Lib (hid)
set_option maxRecDepth 100000 in
set_option maxHeartbeats 4000000 in
theorem onceDo_any (R O oc : Nat) (q : Value) (W : World) (hR : W.heap[R]? = some (.cells (repRow 0 0 q .nilIface (.slice (some ⟨O, 0, none⟩) 14 oc)) 99 (0, 0))) (hOR : O ≠ R) (hO : ∀ j, j < 14 → W.cell? ⟨O, j, none⟩ = strs14[j]?) :
    Calls Tryz.prog 42 #[.pointer (some ⟨R, 0, none⟩), .func (.func 43) #[.pointer (some ⟨R, 0, none⟩)] #[]] W fun en W' => en = .returned (.tuple #[]) ∧ Built W W' R 1 0 q := by
  have cD := sy_load ⟨R, 0, none⟩ 0 W (rowCell hR 0)
  have cS := doSlow_any R O oc q W hR hOR hO
  have hnot : ∀ (x : Bool) (w : World), (Op.unary .not (.bool x)).run Tryz.prog w = .ok (.bool (!x)) w := fun _ _ => rfl
  clear hR hO
  go_enter Tryz.func42, Tryz.ntmps42
  go_wp2_with fail
  refine cD.mono ?_
  rintro e w1 ⟨rfl, rfl⟩
  go_wp2_with fail
  refine cS.mono ?_
  rintro e w2 ⟨rfl, hB⟩
  go_wp2_with fail
  go_end0
  exact ⟨rfl, hB⟩
set_option maxRecDepth 100000 in
set_option maxHeartbeats 4000000 in
theorem replace_any (R O oc : Nat) (q : Value) (s : ByteArray) (hs : s.size ≤ 1000000000) (W : World) (hR : W.heap[R]? = some (.cells (repRow 0 0 q .nilIface (.slice (some ⟨O, 0, none⟩) 14 oc)) 99 (0, 0))) (hOR : O ≠ R) (hO : ∀ j, j < 14 → W.cell? ⟨O, j, none⟩ = strs14[j]?) :
    Calls Tryz.prog 26 #[.pointer (some ⟨R, 0, none⟩), .string s] W fun en W' => en = .returned (.string (X.ba (X.escL s.data.toList))) ∧ W.grownBy W' (some R) := by
  have cO := onceDo_any R O oc q W hR hOR hO
  have hmf : ∀ (fn : Fn) (first cap : Array Value) (w : World), (Instr.makeFunc fn first cap).run Tryz.prog w = .ok (.func fn first cap) w := fun _ _ _ _ => rfl
  clear hR hO
  go_enter Tryz.func26, Tryz.ntmps26
  go_wp2_with fail
  refine cO.mono ?_
  rintro e w1 ⟨rfl, hB⟩
  obtain ⟨T, L, hT, hTab⟩ := hB.done
  have c3 : w1.cell? ⟨R, 3, none⟩ = some (.iface 159 (.pointer (some ⟨T, 0, none⟩))) := rowCell hT 3
  have cR := fun U => repl_any W.heap.size T L s hs U
  have hm : ∀ (a : Option Addr) (w : World), (method 351 159 (.pointer a) "Replace").run Tryz.prog w = .ok (181, .pointer a) w := fun _ _ => by kernel_rfl
  have HX := hid (And.intro hTab hB.grown)
  clear hT hTab hB cO
  go_wp2_with fail
  refine (cR _ HX.out.1).mono ?_
  rintro e w2 ⟨rfl, hb⟩
  go_wp2_with fail
  go_ret
  exact ⟨rfl, HX.out.2.trans (grown_below hb)⟩
theorem infoStr : (Tryz.prog.info? 9).map (fun i => (i.zero, i.size, i.bytes)) = some (some (.string ⟨#[]⟩), 1, 16) := by kernel_rfl
/-- what NewReplacer answers -/
def NewR (W : World) (en : Ending) (W' : World) : Prop := ∃ R O oc, en = .returned (.pointer (some ⟨R, 0, none⟩)) ∧ W'.heap[R]? = some (.cells (repRow 0 0 (.int .u32 0) .nilIface (.slice (some ⟨O, 0, none⟩) 14 oc)) 99 (0, 0)) ∧ O ≠ R ∧ (∀ j, j < 14 → W'.cell? ⟨O, j, none⟩ = strs14[j]?) ∧ W.heap.size ≤ R ∧ Below W.heap.size W W'
set_option maxRecDepth 100000 in
set_option maxHeartbeats 4000000 in
theorem newReplacer_any (O c : Nat) (W : World) (hO : ∀ j, j < 14 → W.cell? ⟨O, j, none⟩ = strs14[j]?) :
    Calls Tryz.prog 25 #[.slice (some ⟨O, 0, none⟩) 14 c] W (NewR W) := by
  obtain ⟨i0, hi, hz0, hz1, hz2⟩ := info_parts infoStr
  have HO := hid hO
  clear hO
  go_enter Tryz.func25, Tryz.ntmps25
  go_wp2_with (at_builtin; refine wpList_append_own _ rfl _ _ 40 rfl W.heap.size 9 i0 _ 1 16 Tryz.underlying40 hi hz0 hz1 hz2 rfl (by decide) (.slice none 0 0) 0 [] rfl (World.ownsRow_nil _ _ _ _) ⟨O, 0, none⟩ 14 c strs14.toList rfl rfl (fun j u hj => ?_) (by decide) (by decide) (by decide) (by simp) ?_)
  · have e : (⟨O, 0, none⟩ : Addr).add j = ⟨O, j, none⟩ := by cases j <;> simp [Addr.add]
    have hlt : j < 14 := by
      rcases Nat.lt_or_ge j 14 with h | h
      · exact h
      · rw [List.getElem?_eq_none (show strs14.toList.length ≤ j from h)] at hj; cases hj
    rw [e, HO.out j hlt, ← Array.getElem?_toList, hj]
  · intro v' w1 hown hg hnn
    obtain ⟨hlen, hcase⟩ := hown
    rcases hcase with hc | ⟨O', cap, cs, rfl, hB, hheap, hle, hmax, hsz, htake⟩
    · exact absurd hc.1 hnn
    have hlt' : O' < w1.heap.size := Go.lt_of_block hheap
    have HH := hid (And.intro hheap (And.intro hlt' (And.intro htake (And.intro hB hg))))
    clear hheap hlt' htake hB hg hlen hnn hsz
    go_wp2_with fail
    go_ret
    obtain ⟨h1, h2, h3, h4, h5⟩ := HH.out
    have hsz1 := h5.size
    have hb1 : Below W.heap.size W w1 := (Below.refl W.heap.size W).grown h5 (Nat.le_refl _) (fun q hq => by cases hq)
    refine ⟨w1.heap.size, O', cap, rfl, ?_, by omega, ?_, hsz1, hb1.alloc hsz1 _⟩
    · exact heap_alloc_new w1 _
    intro j hj
    rw [World.cell?_alloc_past _ _ _ h2, rowCell h1 j]
    have this : (List.take (14 * 1) cs.toList)[j]? = strs14.toList[j]? := by rw [h3]
    rw [List.getElem?_take_of_lt (by omega), Array.getElem?_toList, Array.getElem?_toList] at this
    exact this
end Go.Proofs.YtakplnceiibmlaaGreatDoor
