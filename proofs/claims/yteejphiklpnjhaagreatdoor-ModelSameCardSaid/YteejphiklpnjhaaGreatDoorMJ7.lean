/- What is in an element; elements; Parse. -/
import Derived.ProofKit
import Derived.Deep.RegionHeld3
import Derived.Test.YteejphiklpnjhaaGreatDoorMJ6
import Derived.Defers
import Derived.Recover
import Derived.Laws.Pointers
import Derived.Test.YteejphiklpnjhaaGreatDoorMJ3
namespace Go.Proofs.YteejphiklpnjhaaGreatDoor
set_option maxRecDepth 100000
set_option maxHeartbeats 16000000
open Go.RowKit
section
variable {P : Program} {ops : Array Oper} {Q : Exit → Act → World → Prop} {md : Region.Mode} {S : World → Prop} {k : Nat}
def wpTill (P : Program) (md : Region.Mode) (ops : Array Oper) (Q : Exit → Act → World → Prop) (S : World → Prop) (k : Nat) : Nat → Array Bool → Act → World → Prop
 | 0, listed, a, w => Region.ready md ops listed = [] ∧ Q .normal a w
 | fuel + 1, listed, a, w =>
   (Region.ready md ops listed = [] → Q .normal a w) ∧
   ∀ i ∈ Region.ready md ops listed, wpOp P ops Q i (fun a' w' => ((listed.setIfInBounds i true).getD k true = false → S w') ∧ wpTill P md ops Q S k fuel (listed.setIfInBounds i true) a' w') a w
theorem wpAny_of_till : ∀ (fuel : Nat) (listed : Array Bool) (a : Act) (w : World), wpTill P md ops Q S k fuel listed a w → wpAny P md ops Q fuel listed a w
 | 0, _, _, _, h => h
 | fuel + 1, _, _, _, h => ⟨h.1, fun i hi => wpOp_mono (fun a' w' h' => wpAny_of_till fuel _ a' w' h'.2) (h.2 i hi)⟩
def chainT (md : Region.Mode) (ops : Array Oper) (D : List Nat) (i k : Nat) : Bool :=
 D.contains k && D.all fun j => j == i || match ops[j]? with
  | some o => o.after.any fun e => Region.binds md e && D.contains e.on
  | none => false
theorem chainT_not {D : List Nat} {i k : Nat} (h : chainT md ops D i k = true) {listed : Array Bool} (hD : ∀ d ∈ D, listed.getD d false = false) {j : Nat} (hj : j ∈ Region.ready md ops listed) (hji : j ≠ i) : j ∉ D := by
 intro hjD
 unfold chainT at h
 rw [Bool.and_eq_true, List.all_eq_true] at h
 have h1 := h.2 j hjD
 obtain ⟨_, o, ho, hall⟩ := mem_ready.1 hj
 rw [ho] at h1
 simp only [Bool.or_eq_true, beq_iff_eq, hji, false_or] at h1
 obtain ⟨e, he, hb⟩ := Array.any_eq_true'.1 h1
 rw [Bool.and_eq_true] at hb
 have h2 := hall e he hb.1
 rw [hD e.on (by simpa using hb.2)] at h2
 cases h2
theorem wpTill_first {i : Nat} {oi : Oper} {v : Value} (hi : ops[i]? = some oi) (hsel : ∀ (j : Nat) (o : Oper) cs b, ops[j]? = some o → o.op ≠ .select cs b)
   (hQ : ∀ c a w, Q (.panic c) (a.put oi.dst v) w → Q (.panic c) a w) {D : List Nat} (hc : chainT md ops D i k = true) (hki : k ≠ i) :
   ∀ (fuel : Nat) (listed : Array Bool) (a : Act) (w : World),
     (∀ j oj, ops[j]? = some oj → j ≠ i → listed.getD j true = false → (∀ e ∈ oj.after, Region.binds md e = true → e.on ≠ i) → oi.apart ops oj = true) →
     (∀ d ∈ D, listed.getD d false = false) → listed.getD k true = false →
     i ∈ Region.ready md ops listed → YieldsIf P ops S oi v a → S w →
     wpTill P md ops Q S k fuel (listed.setIfInBounds i true) (a.put oi.dst v) w → wpTill P md ops Q S k (fuel + 1) listed a w := by
 intro fuel
 induction fuel with
 | zero =>
   intro listed a w _ hD hk hr hy hS H
   refine ⟨fun h => (by rw [h] at hr; cases hr), fun j hj => ?_⟩
   by_cases hji : j = i
   · subst hji; exact hy.wpOp hi hS ⟨fun _ => hS, H⟩
   · have := ready_mono hj hji
     rw [H.1] at this
     cases this
 | succ fuel ih =>
   intro listed a w hfree hD hk hr hy hS H
   refine ⟨fun h => (by rw [h] at hr; cases hr), fun j hj => ?_⟩
   by_cases hji : j = i
   · subst hji; exact hy.wpOp hi hS ⟨fun _ => hS, H⟩
   · have hjD := chainT_not hc hD hj hji
     have h1 := H.2 j (ready_mono hj hji)
     obtain ⟨hjun, oj, hoj, hall⟩ := mem_ready.1 hj
     have hnot : ∀ e ∈ oj.after, Region.binds md e = true → e.on ≠ i := fun e he hb heq => by
      have h1 := hall e he hb
      have h0 := (mem_ready.1 hr).1
      rw [heq] at h1
      rcases Nat.lt_or_ge i listed.size with h' | h'
      · simp [h'] at h0 h1; rw [h0] at h1; cases h1
      · simp [Array.getElem?_eq_none h'] at h1
     have h2 := wpOp_putIf hoj (hfree j oj hoj hji hjun hnot) (fun cs b => hsel i oi cs b hi) (fun cs b => hsel j oj cs b hoj) hQ hy h1
     have hfree' : ∀ k ok, ops[k]? = some ok → k ≠ i → (listed.setIfInBounds j true).getD k true = false →
        (∀ e ∈ ok.after, Region.binds md e = true → e.on ≠ i) → oi.apart ops ok = true := fun k ok hk hki hun hno => by
      refine hfree k ok hk hki ?_ hno
      by_cases hjk : j = k
      · subst hjk; exact hjun
      · rw [getD_set_ne true hjk] at hun; exact hun
     have hkD : k ∈ D := by
      unfold chainT at hc
      rw [Bool.and_eq_true] at hc
      simpa using hc.1
     have hjk : j ≠ k := fun e => by subst e; exact hjD hkD
     have hk' : (listed.setIfInBounds j true).getD k true = false := by rw [getD_set_ne true hjk]; exact hk
     have hD' : ∀ d ∈ D, (listed.setIfInBounds j true).getD d false = false := fun d hd => by
      rw [getD_set_ne false (show j ≠ d from fun e => by subst e; exact hjD hd)]; exact hD d hd
     have hk2 : ((listed.setIfInBounds i true).setIfInBounds j true).getD k true = false := by
      rw [Array.setIfInBounds_comm _ _ (Ne.symm hji), getD_set_ne true (Ne.symm hki)]; exact hk'
     refine wpOp_mono (fun a' w' h3 => ⟨fun _ => h3.2.1 hk2, ih (listed.setIfInBounds j true) a' w' hfree' hD' hk' (ready_mono hr (Ne.symm hji)) h3.1 (h3.2.1 hk2) ?_⟩) h2
     rw [Array.setIfInBounds_comm _ _ hji]
     exact h3.2.2
theorem wpTill_load (i : Nat) (D : List Nat) {oi : Oper} {v : Value} {fuel : Nat} {listed : Array Bool} {a : Act} {w : World} (hi : ops[i]? = some oi)
  (hs : Region.noSelect ops = true) (hf : Region.free md ops listed i = true) (hr : (Region.ready md ops listed).contains i = true)
  (hc : (chainT md ops D i k && (k != i) && (D.all fun d => !listed.getD d false) && !listed.getD k true) = true)
  (hQ : ∀ c a w, Q (.panic c) (a.put oi.dst v) w → Q (.panic c) a w) (hy : YieldsIf P ops S oi v a) (hS : S w)
  (h : wpTill P md ops Q S k fuel (listed.setIfInBounds i true) (a.put oi.dst v) w) : wpTill P md ops Q S k (fuel + 1) listed a w := by
 simp only [Bool.and_eq_true, bne_iff_ne, ne_eq, List.all_eq_true, Bool.not_eq_true'] at hc
 exact wpTill_first hi (Region.noSelect_spec hs) hQ hc.1.1.1 hc.1.1.2 fuel listed a w (Region.free_spec hi hf) hc.1.2 hc.2 (by simpa using hr) hy hS h
theorem wpTill_any (i : Nat) {oi : Oper} {v : Value} {fuel : Nat} {listed : Array Bool} {a : Act} {w : World} (hi : ops[i]? = some oi)
   (hs : Region.noSelect ops = true) (hf : Region.free md ops listed i = true) (hr : (Region.ready md ops listed).contains i = true) (hki : (k != i) = true)
   (hQ : ∀ c a w, Q (.panic c) (a.put oi.dst v) w → Q (.panic c) a w) (hy : Yields P ops oi v a) (hS : listed.getD k true = false → S w)
   (h : wpTill P md ops Q S k fuel (listed.setIfInBounds i true) (a.put oi.dst v) w) : wpTill P md ops Q S k (fuel + 1) listed a w := by
 have hkn : k ≠ i := by simpa using hki
 have hsel := Region.noSelect_spec hs
 have hfree := Region.free_spec hi hf
 have hr' : i ∈ Region.ready md ops listed := by simpa using hr
 clear hf hr
 revert listed a w
 induction fuel with
 | zero =>
   intro listed a w hy hS H hfree hr
   refine ⟨fun h => (by rw [h] at hr; cases hr), fun j hj => ?_⟩
   by_cases hji : j = i
   · subst hji; exact hy.wpOp hi ⟨fun hk => hS (by rw [getD_set_ne true (Ne.symm hkn)] at hk; exact hk), H⟩
   · have := ready_mono hj hji
     rw [H.1] at this
     cases this
 | succ fuel ih =>
   intro listed a w hy hS H hfree hr
   refine ⟨fun h => (by rw [h] at hr; cases hr), fun j hj => ?_⟩
   by_cases hji : j = i
   · subst hji; exact hy.wpOp hi ⟨fun hk => hS (by rw [getD_set_ne true (Ne.symm hkn)] at hk; exact hk), H⟩
   · have h1 := H.2 j (ready_mono hj hji)
     obtain ⟨hjun, oj, hoj, hall⟩ := mem_ready.1 hj
     have hnot : ∀ e ∈ oj.after, Region.binds md e = true → e.on ≠ i := fun e he hb heq => by
      have h1 := hall e he hb
      have h0 := (mem_ready.1 hr).1
      rw [heq] at h1
      rcases Nat.lt_or_ge i listed.size with h' | h'
      · simp [h'] at h0 h1; rw [h0] at h1; cases h1
      · simp [Array.getElem?_eq_none h'] at h1
     have h2 := wpOp_put hoj (hfree j oj hoj hji hjun hnot) (fun cs b => hsel i oi cs b hi) (fun cs b => hsel j oj cs b hoj) hQ hy h1
     have hfree' : ∀ k ok, ops[k]? = some ok → k ≠ i → (listed.setIfInBounds j true).getD k true = false →
        (∀ e ∈ ok.after, Region.binds md e = true → e.on ≠ i) → oi.apart ops ok = true := fun k ok hk hki hun hno => by
      refine hfree k ok hk hki ?_ hno
      by_cases hjk : j = k
      · subst hjk; exact hjun
      · rw [getD_set_ne true hjk] at hun; exact hun
     refine wpOp_mono (fun a' w' h3 => ?_) h2
     have hk3 : (listed.setIfInBounds j true).getD k true = false → S w' := fun hk => h3.2.1 (by rw [Array.setIfInBounds_comm _ _ (Ne.symm hji), getD_set_ne true (Ne.symm hkn)]; exact hk)
     exact ⟨hk3, ih h3.1 hk3 (by rw [Array.setIfInBounds_comm _ _ hji]; exact h3.2.2) hfree' (ready_mono hr (Ne.symm hji))⟩
theorem wpTill_done {listed : Array Bool} {a : Act} {w : World} (hr : Region.ready md ops listed = []) (h : Q .normal a w) : ∀ fuel, wpTill P md ops Q S k fuel listed a w
 | 0 => ⟨hr, h⟩
 | _ + 1 => ⟨fun _ => h, by rw [hr]; simp⟩
def AllTill (P : Program) (md : Region.Mode) (ops : Array Oper) (Q : Exit → Act → World → Prop) (S : World → Prop) (k : Nat) (fuel : Nat) (listed : Array Bool) (a : Act) (w : World) (rs : List Nat) : Prop :=
 ∀ i ∈ rs, wpOp P ops Q i (fun a' w' => ((listed.setIfInBounds i true).getD k true = false → S w') ∧ wpTill P md ops Q S k fuel (listed.setIfInBounds i true) a' w') a w
theorem AllTill.nil {fuel : Nat} {listed : Array Bool} {a : Act} {w : World} : AllTill P md ops Q S k fuel listed a w [] := fun _ h => by cases h
theorem AllTill.cons {fuel : Nat} {listed : Array Bool} {a : Act} {w : World} {i : Nat} {o : Oper} {rs : List Nat} (ho : ops[i]? = some o)
   (h : ∀ K' : Act → World → Prop, Shut (∀ a w, ((listed.setIfInBounds i true).getD k true = false → S w) → wpTill P md ops Q S k fuel (listed.setIfInBounds i true) a w → K' a w) → if Region.wanted o (yielded ops a.tmps) = true then Oper.wp P o a w K' Q else K' (a.put o.dst undef) w)
   (hs : AllTill P md ops Q S k fuel listed a w rs) : AllTill P md ops Q S k fuel listed a w (i :: rs) := fun j hj => by
 rcases List.mem_cons.1 hj with rfl | hj
 · exact wpOp_step ho (fun K' hK => h K' (fun a w hS hW => hK a w ⟨hS, hW⟩))
 · exact hs j hj
theorem AllTill.consH {fuel : Nat} {listed : Array Bool} {a : Act} {w : World} {i : Nat} {o : Oper} {rs : List Nat} (ho : ops[i]? = some o)
  (h : ∀ K' : Act → World → Prop, Shut (∀ a w, ((listed.setIfInBounds i true).getD k true = false → S w) → (((listed.setIfInBounds i true).getD k true = false → S w) → wpTill P md ops Q S k fuel (listed.setIfInBounds i true) a w) → K' a w) → if Region.wanted o (yielded ops a.tmps) = true then Oper.wp P o a w K' Q else K' (a.put o.dst undef) w)
  (hs : AllTill P md ops Q S k fuel listed a w rs) : AllTill P md ops Q S k fuel listed a w (i :: rs) :=
 AllTill.cons ho (fun K' hK => h K' (fun a w hS hW => hK a w hS (hW hS))) hs
theorem wpTill_ready {rs : List Nat} {fuel : Nat} {listed : Array Bool} {a : Act} {w : World} (hr : Region.ready md ops listed = rs) (hne : rs ≠ [])
 (h : AllTill P md ops Q S k fuel listed a w rs) : wpTill P md ops Q S k (fuel + 1) listed a w := ⟨fun h0 => absurd (hr ▸ h0) hne, hr ▸ h⟩
theorem wp_region_till {id : Nat} {a : Act} {w : World} (S : World → Prop) (k : Nat) (hm : P.follows .mixedOrders = true)
  (h : wpTill P .any ops Q S k ops.size (Array.replicate ops.size false) a w.drew) : (Code.region id ops true).wp P Q a w :=
 wp_region_any hm (wpAny_of_till _ _ _ _ h)
end
end Go.Proofs.YteejphiklpnjhaaGreatDoor
namespace Go.Proofs.YteejphiklpnjhaaGreatDoor
set_option maxRecDepth 100000
set_option maxHeartbeats 16000000
open Go.RowKit
open Go.Lib (hid)
theorem atF_apart {T e : TypeId} {B b : Nat} {p : Value} {bs : List Value} {W W' : World} {row : Option Nat} (h : Lib.BuilderAtF T e B b p bs W) (hg : W.grownBy W' row) (hb : some b ≠ row) (hr : ∀ k, row = some k → ∃ cs t fz, W.heap[k]? = some (.cells cs t fz) ∧ t ≠ e) : Lib.BuilderAtF T e B b p bs W' := by
 have hlt := h.lt
 obtain ⟨hB, v, hv, hown, hne⟩ := h
 refine ⟨hB, v, (hg.block b hlt hb).trans hv, hown.kept hg ?_, hne⟩
 rcases hown.2 with ⟨rfl, _⟩ | ⟨g, cap, cur, fz, rfl, _, hgr, _⟩
 · exact Or.inl rfl
 · refine Or.inr fun hk => ?_
   obtain ⟨cs, t, fz', h1, h2⟩ := hr g hk.symm
   rw [hgr] at h1
   simp only [Option.some.injEq, Obj.cells.injEq] at h1
   exact h2 h1.2.1.symm
theorem Holds.apart {B b : Nat} {l : List UInt8} {W W' : World} {row : Option Nat} (h : Holds B b l W) (hg : W.grownBy W' row) (hb : some b ≠ row) (hr : ∀ k, row = some k → ∃ cs t fz, W.heap[k]? = some (.cells cs t fz) ∧ t ≠ 5) : Holds B b l W' :=
 h.elim (fun x => .inl (atF_apart x hg hb hr)) (fun x => .inr (atF_apart x hg hb hr))
def ElemOf (W0 : World) (R : Nat) (s : ByteArray) (x : X.Res (X.E × Nat)) (en : Ending) (W : World) : Prop :=
 (∃ e c' r cs, x = .ok ((e, c'), r) ∧ en = .returned (.agg cs.toArray) ∧ e.Has W (OwnN W W0.heap.size none) cs ∧ c' ≤ 1024 ∧ Rd W0 R s (s.size - r.length) c' W) ∨
 (∃ n er, x = .error (n, er) ∧ en = .panicked (chain er ((s.size - n : Nat) : Int)) ∧ W0.grownBy W (some R))
def ElemC (G R : Nat) (s : ByteArray) (d deep : Nat) : Prop := ∀ (p c : Nat) (W : World) (M N : Nat) (known : X.K), Rd W R s p c W → p ≤ s.size → c ≤ 1024 → Ground G W → KM W M N known → M ≠ R → N ≤ 2 + 32 * deep →
 Calls Tryz.prog 28 #[.pointer (some ⟨R, 0, none⟩), .int .i64 deep, .map (some M)] W (ElemOf W R s (X.elem s.data.toList d known c (rest s p)))
def InsOf (W0 : World) (R : Nat) (s : ByteArray) (x : X.Res ((List UInt8 × X.N) × Nat)) (en : Ending) (W : World) : Prop :=
 (∃ tx ks c' r kv, x = .ok (((tx, ks), c'), r) ∧ en = .returned (.tuple #[.string (X.ba tx), kv]) ∧ ks.In W (OwnN W W0.heap.size none) kv ∧ c' ≤ 1024 ∧ Rd W0 R s (s.size - r.length) c' W) ∨
 (∃ n er, x = .error (n, er) ∧ en = .panicked (chain er ((s.size - n : Nat) : Int)) ∧ W0.grownBy W (some R))
structure IS (W : World) (R H M N : Nat) (s : ByteArray) (tag : List UInt8 × List UInt8) (known : X.K) (q c : Nat) (tx : List UInt8) (ks : X.N) (v : Value) (wr : World) : Prop where
 h : W.heap.size = H
 rd : Rd W R s q c wr
 nm : wr.heap[H]? = some (nameRow tag)
 ho : Holds (H + 1) (H + 1) tx wr
 ko : KOwn (H + 2) ks v wr
 km : KM wr M N known
 hM : M < H
 hR : M ≠ R
section
variable {W wr w' : World} {R H M N q c : Nat} {s : ByteArray} {tag : List UInt8 × List UInt8} {known : X.K} {tx : List UInt8} {ks : X.N} {v : Value}
theorem IS.rH (h : IS W R H M N s tag known q c tx ks v wr) : R < H := by have := h.rd.lt; have := h.h; omega
theorem IS.rdr (h : IS W R H M N s tag known q c tx ks v wr) {q' c' : Nat} (g : Rd wr R s q' c' w') : IS W R H M N s tag known q' c' tx ks v w' := by
 have hr := h.rH
 exact ⟨h.h, h.rd.trans g, (g.g.block H (Go.lt_of_block h.nm) (fun e => by have := Option.some.inj e; omega)).trans h.nm, h.ho.grown g.g (by omega), h.ko.keep (KeepN.grown g.g (by omega)), h.km.grown g.g (fun e => h.hR (Option.some.inj e).symm), h.hM, h.hR⟩
theorem IS.below (h : IS W R H M N s tag known q c tx ks v wr) (hb : Below wr.heap.size wr w') : IS W R H M N s tag known q c tx ks v w' :=
 ⟨h.h, h.rd.below hb, (hb.block H (Go.lt_of_block h.nm)).trans h.nm, h.ho.after hb, h.ko.keep (KeepN.below hb _), h.km.below hb, h.hM, h.hR⟩
theorem IS.text (h : IS W R H M N s tag known q c tx ks v wr) {tx' : List UInt8} (gh : Holds (H + 1) (H + 1) tx' w') (gb : Below (H + 1) wr w') (gk : Kept (H + 1) wr w') : IS W R H M N s tag known q c tx' ks v w' := by
 have hh := h.h
 have hm := h.hM
 refine ⟨h.h, h.rd.build gb (by omega), (gb.block H (by omega)).trans h.nm, gh, h.ko.keep (KeepN.bytes gk gb.size (by omega)), ?_, h.hM, h.hR⟩
 obtain ⟨es, clock, h1, h2, h3, h4⟩ := h.km
 exact ⟨es, clock, (gb.block M (by omega)).trans h1, h2, h3, h4⟩
end
theorem inside_any {R p c G M N d deep f : Nat} {s : ByteArray} {W : World} {known : X.K} (tag : List UInt8 × List UInt8) (hE : ElemC G R s d (deep + 1)) (hdeep : deep < 16) (hf : s.size - p < f) (h : Rd W R s p c W) (hp : p ≤ s.size) (hs : s.size ≤ 1000000000000) (hc : c ≤ 1024) (hG : Ground G W) (hGR : G ≤ R) (hK : KM W M N known) (hMR : M ≠ R) (hN : N ≤ 2 + 32 * (deep + 1)) :
  Calls Tryz.prog 40 #[.pointer (some ⟨R, 0, none⟩), nameV tag, .int .i64 deep, .map (some M)] W (InsOf W R s (X.inside (X.elem s.data.toList d known) tag f c [] .nil (rest s p))) := by
 obtain ⟨el, hel⟩ : ∃ el, X.elem s.data.toList d known = el := ⟨_, rfl⟩
 have HEL := hid hel
 have HEF : Hid (∀ c l, X.Fair 1 l (el c l)) := by intro c l; rw [← hel]; exact X.elem_fair _ _ _ _ _
 rw [hel]
 obtain ⟨RES, hRES⟩ : ∃ x, X.inside el tag f c [] .nil (rest s p) = x := ⟨_, rfl⟩
 rw [hRES]
 unfold nameV
 obtain ⟨H, hH⟩ : ∃ H, W.heap.size = H := ⟨_, rfl⟩
 obtain ⟨w1, hw1⟩ : ∃ w1, (W.alloc (.cells #[.string (X.ba tag.1), .string (X.ba tag.2)] 82)).alloc (.cells #[.pointer none, .slice none 0 0] 130) = w1 := ⟨_, rfl⟩
 have HI0 : Hid (s.size - p < f ∧ p ≤ s.size ∧ ([] : List UInt8).length ≤ 4 * p ∧ X.N.nil.length ≤ p ∧ c ≤ 1024 ∧ X.inside el tag f c [] .nil (rest s p) = RES) := ⟨hf, hp, Nat.zero_le _, Nat.zero_le _, hc, hRES⟩
 have HS1 : Hid (IS W R H M N s tag known p c [] .nil (.slice none 0 0) w1) := by
  show IS _ _ _ _ _ _ _ _ _ _ _ _ _ _
  have hs0 : (W.alloc (.cells #[.string (X.ba tag.1), .string (X.ba tag.2)] 82)).heap.size = H + 1 := by rw [← hH]; simp
  have hb0 : Below W.heap.size W (W.alloc (.cells #[.string (X.ba tag.1), .string (X.ba tag.2)] 82)) := (Below.refl _ W).alloc (Nat.le_refl _) _
  have hb1 : Below W.heap.size W w1 := by rw [← hw1]; exact hb0.alloc (by simp) _
  have h0 := heap_alloc_new W (.cells #[.string (X.ba tag.1), .string (X.ba tag.2)] 82)
  have hh := holds_fresh (W.alloc (.cells #[.string (X.ba tag.1), .string (X.ba tag.2)] 82))
  rw [hw1, hs0] at hh
  rw [hH] at h0
  refine ⟨hH, h.below hb1, ?_, hh, KOwn.nil _ _, hK.below hb1, ?_, hMR⟩
  · rw [← hw1, Go.Lib.alloc_old _ _ H (by rw [hs0]; omega)]; exact h0
  · obtain ⟨es, clock, hm1, _⟩ := hK
    have := Go.lt_of_block hm1
    omega
 have HELC := hid hE
 have HG := hid hG
 have HW1 := hid hw1
 have HH := hid hH
 clear hE h hp hf hc hG hK hRES hw1 hH hMR hel
 go_enter Tryz.func40, Tryz.ntmps40
 go_upto_region 2 with fail
 rw [HH.out] 
 rw [HW1.out]
 clear HW1
 go_wp2_with fail
 go_loopw [11, 12] (fun v v12 wr => ∃ (q k c : Nat) (tx : List UInt8) (ks : X.N) (va : Option Addr) (vc : Nat), v = .slice va ks.length vc ∧ Hid (s.size - q < k ∧ q ≤ s.size ∧ tx.length ≤ 4 * q ∧ ks.length ≤ q ∧ c ≤ 1024 ∧ X.inside el tag k c tx ks (rest s q) = RES) ∧ Hid (IS W R H M N s tag known q c tx ks v wr)) (fun _ _ wr => s.size - posOf wr R)
 case atStart => exact ⟨_, _, _, [], .nil, none, 0, rfl, HI0, HS1⟩
 case round =>
  obtain ⟨q, k, c, tx, ks, va, vc, rfl, HI, HS⟩ := hrel
  clear HI0 HS1
  obtain ⟨h1, h2, h4, h5, h6, h3⟩ := HI.out
  obtain ⟨k, rfl⟩ : ∃ k', k = k' + 1 := ⟨k - 1, by omega⟩
  have HPOS := hid HS.out.rd.pos
  have cT := take_l (k := 2) [60, 47] ⟨#[60, 47]⟩ rfl rfl HS.out.rd.own h2 hs
  have HE0 : Hid (RES = X.inside el tag (k + 1) c tx ks (rest s q)) := h3.symm
  clear h1 h3
  go_wp2_with fail
  refine cT.mono ?_
  rintro e w2 (⟨g1, g2, rfl, g3⟩ | ⟨g1, rfl, g3⟩)
  · have HE : Hid (RES = (match X.close tag (rest s (q + 2)) with | .error e => .error e | .ok (_, r) => .ok (((tx, ks), c), r))) := by
      show _ = _
      rw [HE0.out, X.inside, if_pos g1, rest_drop]
      rfl
    have H2 := hid (HS.out.rdr g3)
    clear g1 g3 cT HE0
    obtain ⟨c0, c1, -⟩ := H2.out.rd.cells
    obtain ⟨q2, hq2⟩ : ∃ q2, q + 2 = q2 := ⟨_, rfl⟩
    rw [hq2] at H2 g2 HE c1
    have HQ2 := hid hq2
    clear hq2
    have HD : Hid (IS W R H M N s tag known q2 c tx ks (.slice va ks.length vc) w2.drew) := H2.out.below (Below.refl _ _).drew
    have cN := name_any HD.out.rd.own g2 hs
    have HF := hid (X.name_fair (rest s q2))
    have hnm := H2.out.nm
    unfold nameRow at hnm
    obtain ⟨t1, ht1⟩ : ∃ t1, X.ba tag.1 = t1 := ⟨_, rfl⟩
    obtain ⟨t2, ht2⟩ : ∃ t2, X.ba tag.2 = t2 := ⟨_, rfl⟩
    have hl1 : t1.toList = tag.1 := by rw [← ht1]; exact ba_toList _
    have hl2 : t2.toList = tag.2 := by rw [← ht2]; exact ba_toList _
    rw [ht1, ht2] at hnm ⊢
    obtain ⟨n0, n1⟩ := row2 hnm
    have HNM2 : Hid (w2.drew.heap[H]? = some (.cells #[.string t1, .string t2] 82 (0, 0))) := hnm
    have HRH : Hid (H ≠ R) := by have := H2.out.rH; show _ ≠ _; omega
    clear hnm ht1 ht2
    cases hx : X.name (rest s q2) with
    | error z =>
      obtain ⟨n, e0⟩ := z
      have HCN : Hid (Calls Tryz.prog 37 #[.pointer (some ⟨R, 0, none⟩)] w2.drew fun en W' => en = .panicked (chain e0 ((s.size - n : Nat) : Int)) ∧ w2.drew.grownBy W' (some R)) := by
        refine cN.mono ?_
        rintro en W' (⟨nm, r, h1, h2, h3⟩ | ⟨m, e, h1, h2, h3⟩)
        · rw [hx] at h1; cases h1
        · rw [hx] at h1; cases h1; exact ⟨h2, h3⟩
      have HE2 : Hid (RES = .error (n, e0)) := by show _ = _; rw [HE.out, X.close, hx]
      clear cN hx HF
      go_wp2_with fail
      refine wp_region_till (S := (fun w : World => w.heap[H]? = some (.cells #[.string t1, .string t2] 82 (0, 0)))) 5 (by kernel_rfl) ?_
      have HS := hid (show ((fun w : World => w.heap[H]? = some (.cells #[.string t1, .string t2] 82 (0, 0)))) _ from HNM2.out)
      refine wpTill_any 0 (oi := ?oi1) (v := ?v1) ?ho1 (by kernel_rfl) (by kernel_rfl) (by kernel_rfl) (by kernel_rfl) ?hq1 (Or.inl ⟨?hw1, ?hy1⟩) (fun _ => HS.out) ?rest1
      case ho1 => rfl
      case hw1 => rfl
      case hy1 => intro w; go_simp; try with_reducible rfl
      case hq1 => exact fun _ _ _ h => h
      refine wpTill_any 1 (oi := ?oi2) (v := ?v2) ?ho2 (by kernel_rfl) (by kernel_rfl) (by kernel_rfl) (by kernel_rfl) ?hq2 (Or.inl ⟨?hw2, ?hy2⟩) (fun _ => HS.out) ?rest2
      case ho2 => rfl
      case hw2 => rfl
      case hy2 => intro w; go_simp; try with_reducible rfl
      case hq2 => exact fun _ _ _ h => h
      refine wpTill_any 2 (oi := ?oi3) (v := ?v3) ?ho3 (by kernel_rfl) (by kernel_rfl) (by kernel_rfl) (by kernel_rfl) ?hq3 (Or.inl ⟨?hw3, ?hy3⟩) (fun _ => HS.out) ?rest3
      case ho3 => rfl
      case hw3 => rfl
      case hy3 => intro w; go_simp; try with_reducible rfl
      case hq3 => exact fun _ _ _ h => h
      refine wpTill_load 4 [4, 5] (oi := ?oi4) (v := ?v4) ?ho4 (by kernel_rfl) (by kernel_rfl) (by kernel_rfl) (by kernel_rfl) ?hq4 (Or.inl ⟨?hw4, ?hy4⟩) HS.out ?rest4
      case ho4 => rfl
      case hw4 => rfl
      case hy4 =>
        intro w hSw
        obtain ⟨m0, m1⟩ := row2 hSw
        clear hSw
        go_simp
        try with_reducible rfl
      case hq4 => exact fun _ _ _ h => h
      refine wpTill_ready (rs := [3]) (by kernel_rfl) (by decide) ?_
      refine AllTill.consH (o := ?oi5) ?ho5 (fun K hK => ?step5) ?more5
      case ho5 => rfl
      case step5 =>
        go_simp
        refine (HCN.out).mono ?_
        rintro e w3 ⟨rfl, hr⟩
        exact ⟨rfl, Or.inr ⟨_, _, HE2.out, rfl, HD.out.rd.g.trans hr⟩⟩
      case more5 =>
        exact AllTill.nil
    | ok z =>
      obtain ⟨nm, r⟩ := z
      have hsuf := (HF.out.1 _ _ hx).1
      have hpos := rest_pos hsuf g2
      have hre := rest_suf hsuf
      obtain ⟨u, hu⟩ : ∃ u, s.size - r.length = u := ⟨_, rfl⟩
      rw [hu] at hpos hre
      obtain ⟨a1, ha1⟩ : ∃ a1, X.ba nm.1 = a1 := ⟨_, rfl⟩
      obtain ⟨a2, ha2⟩ : ∃ a2, X.ba nm.2 = a2 := ⟨_, rfl⟩
      have hm1 : a1.toList = nm.1 := by rw [← ha1]; exact ba_toList _
      have hm2 : a2.toList = nm.2 := by rw [← ha2]; exact ba_toList _
      have HCN : Hid (Calls Tryz.prog 37 #[.pointer (some ⟨R, 0, none⟩)] w2.drew fun en W' => en = .returned (.agg #[.string a1, .string a2]) ∧ Rd w2.drew R s u c W') := by
        refine cN.mono ?_
        rintro en W' (⟨nm', r', h1, h2, h3⟩ | ⟨m, e, h1, h2, h3⟩)
        · rw [hx] at h1; cases h1
          rw [hu] at h3
          refine ⟨?_, h3⟩
          rw [h2, nameV, ha1, ha2]
        · rw [hx] at h1; cases h1
      have HE1 : Hid (RES = (if nm ≠ tag then .error (s.size - q2, 81) else match X.must [62] (X.skip (rest s u)) with | .error e => .error e | .ok (_, r) => .ok (((tx, ks), c), r))) := by
        show _ = _
        rw [HE.out, X.close, hx]
        simp only
        rw [rest_len, hre]
        by_cases hh : nm ≠ tag
        · rw [if_pos hh, if_pos hh]
        · rw [if_neg hh, if_neg hh]
      clear cN hx HF ha1 ha2 HE hre hu
      have hcas : (a1.toList = t1.toList ∧ a2.toList = t2.toList) ∨ (a1.toList = t1.toList ∧ ¬ a2.toList = t2.toList) ∨ ¬ a1.toList = t1.toList := by
        by_cases k1 : a1.toList = t1.toList
        · by_cases k2 : a2.toList = t2.toList
          · exact Or.inl ⟨k1, k2⟩
          · exact Or.inr (Or.inl ⟨k1, k2⟩)
        · exact Or.inr (Or.inr k1)
      rcases hcas with ⟨k1, k2⟩ | ⟨k1, k2⟩ | k1
      · have HE2 : Hid (RES = (match X.must [62] (X.skip (rest s u)) with | .error e => .error e | .ok (_, r) => .ok (((tx, ks), c), r))) := by
          show _ = _
          rw [HE1.out, if_neg]
          intro hh
          exact hh (Prod.ext (by rw [← hm1, ← hl1]; exact k1) (by rw [← hm2, ← hl2]; exact k2))
        have b1 : (a1.toList == t1.toList) = true := by rw [k1]; simp
        have b2 : (a2.toList == t2.toList) = true := by rw [k2]; simp
        clear k1 k2 HE1 hm1 hm2 hl1 hl2
        go_wp2_with fail
        go_region_with (go_at_call 37; refine (HCN.out).mono ?_; rintro e w3 ⟨rfl, hr⟩; (have hnm3 : w3.heap[H]? = some (.cells #[.string t1, .string t2] 82 (0, 0)) := (hr.g.block H (Go.lt_of_block HNM2.out) (fun e => HRH.out (Option.some.inj e))).trans HNM2.out; obtain ⟨m0, m1⟩ := row2 hnm3))
        all_goals
          have H3 := hid (HD.out.rdr hr)
          have cBl := blanks_any H3.out.rd.own hpos.2 hs
          have hsk := X.Suf.skip (rest s u)
          have hpos2 := rest_pos hsk hpos.2
          have hre2 := rest_suf hsk
          obtain ⟨v, hv⟩ : ∃ v, s.size - (X.skip (rest s u)).length = v := ⟨_, rfl⟩
          rw [hv] at cBl hpos2 hre2
          have HE3 : Hid (RES = (match X.must [62] (rest s v) with | .error e => .error e | .ok (_, r) => .ok (((tx, ks), c), r))) := by
            show _ = _
            rw [HE2.out, hre2]
          have hvs := hpos2.2
          clear hr hsk hpos2 hre2 hv HE2 hnm3 m0 m1
          go_wp2_with fail
          refine cBl.mono ?_
          rintro e w4 ⟨rfl, g3⟩
          have H4 := hid (H3.out.rdr g3)
          have cM := must_l [62] ⟨#[62]⟩ rfl H4.out.rd.own hvs hs
          clear g3 cBl H3
          go_wp2_with fail
          refine cM.mono ?_
          rintro e w5 (⟨_, r, hx, rfl, hr⟩ | ⟨m, e, hx, rfl, hr⟩)
          · have HE4 : Hid (RES = .ok (((tx, ks), c), r)) := by show _ = _; rw [HE3.out, hx]
            have H5 := hid (H4.out.rdr hr)
            have cS := string_any (H + 1) (H + 1) tx _ H5.out.ho H5.out.ho.bw
            clear hx hr cM HE3 H4
            go_wp2_with fail
            refine cS.mono ?_
            rintro e w6 ⟨rfl, gh, gb, gk⟩
            have H6 := hid (H5.out.text gh gb gk)
            clear gh gb gk cS H5
            go_wp2_with fail
            go_ret2
            exact Or.inl ⟨_, _, _, _, _, HE4.out, rfl, X.N.In.keep (fun b hb => ⟨by have := hb.1; have := HH.out; omega, hb.2.1, hb.2.2.1, hb.2.2.2⟩) (fun _ _ => rfl) H6.out.ko.is, h6, H6.out.rd⟩
          · have HE4 : Hid (RES = .error (m, e)) := by show _ = _; rw [HE3.out, hx]
            exact ⟨rfl, Or.inr ⟨_, _, HE4.out, rfl, H4.out.rd.g.trans hr⟩⟩
      · have HE2 : Hid (RES = .error (s.size - q2, 81) ∧ s.size - (s.size - q2) = q2) := by
          refine ⟨?_, by omega⟩
          rw [HE1.out, if_pos]
          intro hh
          exact k2 (by rw [hm2, hl2, hh])
        have b1 : (a1.toList == t1.toList) = true := by rw [k1]; simp
        have b2 : (a2.toList == t2.toList) = false := beq_eq_false_iff_ne.2 k2
        clear k1 k2 HE1 hm1 hm2 hl1 hl2
        go_wp2_with fail
        go_region_with (go_at_call 37; refine (HCN.out).mono ?_; rintro e w3 ⟨rfl, hr⟩; (have hnm3 : w3.heap[H]? = some (.cells #[.string t1, .string t2] 82 (0, 0)) := (hr.g.block H (Go.lt_of_block HNM2.out) (fun e => HRH.out (Option.some.inj e))).trans HNM2.out; obtain ⟨m0, m1⟩ := row2 hnm3))
        all_goals
          have H3 := hid (HD.out.rdr hr)
          have cF := fun U => fail_any 81 (q2 : Int) U
          clear hr
          go_wp2_with fail
          refine (cF _).mono ?_
          rintro en w4 ⟨rfl, rfl⟩
          exact ⟨rfl, Or.inr ⟨_, _, HE2.out.1, by rw [HE2.out.2], H3.out.rd.g⟩⟩
      · have HE2 : Hid (RES = .error (s.size - q2, 81) ∧ s.size - (s.size - q2) = q2) := by
          refine ⟨?_, by omega⟩
          rw [HE1.out, if_pos]
          intro hh
          exact k1 (by rw [hm1, hl1, hh])
        have b1 : (a1.toList == t1.toList) = false := beq_eq_false_iff_ne.2 k1
        clear k1 HE1 hm1 hm2 hl1 hl2
        go_wp2_with fail
        go_region_with (go_at_call 37; refine (HCN.out).mono ?_; rintro e w3 ⟨rfl, hr⟩; (have hnm3 : w3.heap[H]? = some (.cells #[.string t1, .string t2] 82 (0, 0)) := (hr.g.block H (Go.lt_of_block HNM2.out) (fun e => HRH.out (Option.some.inj e))).trans HNM2.out; obtain ⟨m0, m1⟩ := row2 hnm3))
        all_goals
          have H3 := hid (HD.out.rdr hr)
          have cF := fun U => fail_any 81 (q2 : Int) U
          clear hr
          go_wp2_with fail
          refine (cF _).mono ?_
          rintro en w4 ⟨rfl, rfl⟩
          exact ⟨rfl, Or.inr ⟨_, _, HE2.out.1, by rw [HE2.out.2], H3.out.rd.g⟩⟩
  · have H2 := hid (HS.out.below g3)
    have HN1 : Hid (¬ [60, 47].isPrefixOf (rest s q) = true) := by show ¬ _; rw [g1]; decide
    clear g1 g3 cT HS
    have cT := take_l (k := 4) [60, 33, 45, 45] ⟨#[60, 33, 45, 45]⟩ rfl rfl H2.out.rd.own h2 hs
    go_wp2_with fail
    refine cT.mono ?_
    rintro e w3 (⟨g1, g2, rfl, g3⟩ | ⟨g1, rfl, g3⟩)
    · have HE : Hid (RES = (match X.comment ((rest s q).length + 1) (rest s (q + 4)) with | .error e => .error e | .ok (_, r) => X.inside el tag k c tx ks r)) := by
        show _ = _
        rw [HE0.out, X.inside, if_neg HN1.out, if_pos g1, rest_drop]
        rfl
      have H3 := hid (H2.out.rdr g3)
      have cC := comment_any ((rest s q).length + 1) (by rw [rest_len]; omega) H3.out.rd.own g2 hs (HG.out.rd H3.out.rd hGR) hGR
      have HF := hid (X.comment_fair ((rest s q).length + 1) (rest s (q + 4)))
      clear g1 g3 cT HE0 HN1 H2
      go_wp2_with fail
      refine cC.mono ?_
      rintro e w4 (⟨x, r, hx, rfl, hr⟩ | ⟨n, e, hx, rfl, hr⟩)
      · have hsuf := (HF.out.1 _ _ hx).1
        have hpos := rest_pos hsuf g2
        have hre := rest_suf hsuf
        obtain ⟨u, hu⟩ : ∃ u, s.size - r.length = u := ⟨_, rfl⟩
        rw [hu] at hr hpos hre
        have H4 := hid (H3.out.rdr hr)
        have H5 : Hid (s.size - u < k ∧ u ≤ s.size ∧ tx.length ≤ 4 * u ∧ ks.length ≤ u ∧ c ≤ 1024 ∧ X.inside el tag k c tx ks (rest s u) = RES) := ⟨by have := HI.out.1; omega, hpos.2, by omega, by omega, h6, by rw [HE.out, hx, hre]⟩
        have H6 : Hid (s.size - u < s.size - q) := by show _ < _; omega
        clear hx hr hsuf hpos hre hu cC HF HE H3
        go_wp2_with fail
        go_roundw
        case rel => exact ⟨u, k, c, tx, ks, va, vc, rfl, H5, H4⟩
        case measure => rw [H4.out.rd.pos, HPOS.out]; exact H6.out
      · have HE2 : Hid (RES = .error (n, e)) := by show _ = _; rw [HE.out, hx]
        exact ⟨rfl, Or.inr ⟨_, _, HE2.out, rfl, H3.out.rd.g.trans hr⟩⟩
    · have H3 := hid (H2.out.below g3)
      have HN2 : Hid (¬ [60, 33, 45, 45].isPrefixOf (rest s q) = true) := by show ¬ _; rw [g1]; decide
      clear g1 g3 cT H2
      have cT := take_l (k := 9) [60, 33, 91, 67, 68, 65, 84, 65, 91] ⟨#[60, 33, 91, 67, 68, 65, 84, 65, 91]⟩ rfl rfl H3.out.rd.own h2 hs
      go_wp2_with fail
      refine cT.mono ?_
      rintro e w4 (⟨g1, g2, rfl, g3⟩ | ⟨g1, rfl, g3⟩)
      · have HE : Hid (RES = (match X.cdata ((rest s q).length + 1) tx (rest s (q + 9)) with | .error e => .error e | .ok (tx', r) => X.inside el tag k c tx' ks r)) := by
          show _ = _
          rw [HE0.out, X.inside, if_neg HN1.out, if_neg HN2.out, if_pos g1, rest_drop]
          rfl
        have H4 := hid (H3.out.rdr g3)
        clear g3 cT HE0 HN1 HN2 H3
        have HC0 : Hid (s.size - (q + 9) < (rest s q).length + 1 ∧ q + 9 ≤ s.size ∧ tx.length ≤ 4 * (q + 9) ∧ q + 9 ≤ q + 9 ∧ X.cdata ((rest s q).length + 1) tx (rest s (q + 9)) = X.cdata ((rest s q).length + 1) tx (rest s (q + 9))) := ⟨by rw [rest_len]; omega, g2, by omega, Nat.le_refl _, rfl⟩
        obtain ⟨q9, hq9⟩ : ∃ q9, q + 9 = q9 := ⟨_, rfl⟩
        obtain ⟨RC, hRC⟩ : ∃ RC, X.cdata ((rest s q).length + 1) tx (rest s (q + 9)) = RC := ⟨_, rfl⟩
        obtain ⟨fc, hfc⟩ : ∃ fc, (rest s q).length + 1 = fc := ⟨_, rfl⟩
        rw [hRC] at HE
        have HC1 : Hid (s.size - q9 < fc ∧ q9 ≤ s.size ∧ tx.length ≤ 4 * q9 ∧ q9 ≤ q9 ∧ X.cdata fc tx (rest s q9) = RC) := by
          rw [← hq9, ← hfc]
          exact ⟨HC0.out.1, HC0.out.2.1, HC0.out.2.2.1, Nat.le_refl _, hRC⟩
        rw [hq9] at H4
        have HQ9 : Hid (q < q9) := by show _ < _; omega
        clear HC0 hRC hfc hq9 g2
        go_wp2_with fail
        go_loopw [] (fun wr => ∃ (t kc : Nat) (acc : List UInt8), Hid (s.size - t < kc ∧ t ≤ s.size ∧ acc.length ≤ 4 * t ∧ q9 ≤ t ∧ X.cdata kc acc (rest s t) = RC) ∧ Hid (IS W R H M N s tag known t c acc ks (.slice va ks.length vc) wr)) (fun wr => s.size - posOf wr R)
        case atStart => exact ⟨_, _, _, HC1, H4⟩
        case round =>
          obtain ⟨t, kc, acc, HJ, HT⟩ := hrel
          clear HC1 H4
          obtain ⟨i1, i2, i4, i5, i3⟩ := HJ.out
          obtain ⟨kc, rfl⟩ : ∃ k', kc = k' + 1 := ⟨kc - 1, by omega⟩
          have HPT := hid HT.out.rd.pos
          have cT := take_l (k := 3) [93, 93, 62] ⟨#[93, 93, 62]⟩ rfl rfl HT.out.rd.own i2 hs
          clear i1 i3
          go_wp2_with fail
          refine cT.mono ?_
          rintro e w5 (⟨g1, g2, rfl, g3⟩ | ⟨g1, rfl, g3⟩)
          · have HE1 : Hid (RC = .ok (acc, rest s (t + 3))) := by
              show _ = _
              rw [← HJ.out.2.2.2.2, X.cdata, if_pos g1, rest_drop]
            have H5 := hid (HT.out.rdr g3)
            have HE2 : Hid (RES = X.inside el tag k c acc ks (rest s (t + 3))) := by show _ = _; rw [HE.out, HE1.out]
            have HI5 : Hid (s.size - (t + 3) < k ∧ t + 3 ≤ s.size ∧ acc.length ≤ 4 * (t + 3) ∧ ks.length ≤ t + 3 ∧ c ≤ 1024 ∧ X.inside el tag k c acc ks (rest s (t + 3)) = RES) := ⟨by have := HI.out.1; have := HQ9.out; omega, g2, by omega, by have := HQ9.out; omega, h6, HE2.out.symm⟩
            have HMM : Hid (s.size - (t + 3) < s.size - q) := by have := HQ9.out; show _ < _; omega
            clear g1 g2 g3 cT HE HE1 HE2 HT
            go_wp2_with fail
            go_roundw
            case rel => exact ⟨t + 3, k, c, acc, ks, va, vc, rfl, HI5, H5⟩
            case measure => rw [H5.out.rd.pos, HPOS.out]; exact HMM.out
          · have H5 := hid (HT.out.below g3)
            have HE1 : Hid (RC = (match X.char (rest s t) with | .error e => .error e | .ok (y, r) => X.cdata kc (acc ++ Go.Proofs.YteejphiklpnjhaaGreatDoor.W.charL y) r)) := by
              show _ = _
              rw [← HJ.out.2.2.2.2, X.cdata, if_neg (by rw [g1]; decide)]
              rfl
            have cC := char_any H5.out.rd.own i2 hs (HG.out.rd H5.out.rd hGR)
            have HF := hid (X.char_fair (rest s t))
            clear g1 g3 cT HT
            go_wp2_with fail
            refine cC.mono ?_
            rintro e w6 (⟨y, r, hx, rfl, hr⟩ | ⟨n, e, hx, rfl, hr⟩)
            · have hsuf := (HF.out.1 _ _ hx).1
              have hlen := (HF.out.1 _ _ hx).2
              have hok := X.char_ok hx
              rw [rest_len] at hlen
              have hpos := rest_pos hsuf i2
              have hre := rest_suf hsuf
              obtain ⟨u, hu⟩ : ∃ u, s.size - r.length = u := ⟨_, rfl⟩
              rw [hu] at hr hpos hre
              have H6 := hid (H5.out.rdr hr)
              have HJ6 : Hid (s.size - u < kc ∧ u ≤ s.size ∧ (acc ++ Go.Proofs.YteejphiklpnjhaaGreatDoor.W.charL y).length ≤ 4 * u ∧ q9 ≤ u ∧ X.cdata kc (acc ++ Go.Proofs.YteejphiklpnjhaaGreatDoor.W.charL y) (rest s u) = RC) := by
                refine ⟨by have := HJ.out.1; omega, hpos.2, ?_, by omega, by rw [HE1.out, hx, hre]⟩
                have := charL_le y
                rw [List.length_append]
                omega
              have HMM : Hid (s.size - u < s.size - t) := by show _ < _; omega
              have hw := writeRune_any (H + 1) (H + 1) acc y hok _ H6.out.ho (by omega) H6.out.ho.bw
              clear hx hr hsuf hlen hpos hre hu cC HF HE1 hok H5
              go_wp2_with fail
              refine hw.mono ?_
              rintro e w7 ⟨⟨nn, rfl⟩, gh, gb, gk⟩
              have H7 := hid (H6.out.text gh gb gk)
              clear gh gb gk hw H6
              go_wp2_with fail
              go_roundw
              case rel => exact ⟨u, kc, _, HJ6, H7⟩
              case measure => rw [H7.out.rd.pos, HPT.out]; exact HMM.out
            · have HE2 : Hid (RES = .error (n, e)) := by show _ = _; rw [HE.out, HE1.out, hx]
              exact ⟨rfl, Or.inr ⟨_, _, HE2.out, rfl, H5.out.rd.g.trans hr⟩⟩
      · have H4 := hid (H3.out.below g3)
        have HN3 : Hid (¬ [60, 33, 91, 67, 68, 65, 84, 65, 91].isPrefixOf (rest s q) = true) := by show ¬ _; rw [g1]; decide
        clear g1 g3 cT H3
        have HE1 : Hid (RES = if ([60, 33].isPrefixOf (rest s q) || [60, 63].isPrefixOf (rest s q) || [93, 93, 62].isPrefixOf (rest s q)) = true then .error (X.bad (rest s q))
            else if [60].isPrefixOf (rest s q) then
              match el c (rest s q) with
              | .error e => .error e
              | .ok ((e, cnt'), r) => X.inside el tag k cnt' tx (ks.snoc e) r
            else if [38].isPrefixOf (rest s q) then
              match X.ref (rest s q) with
              | .error e => .error e
              | .ok (y, r) => X.inside el tag k c (tx ++ Go.Proofs.YteejphiklpnjhaaGreatDoor.W.charL y) ks r
            else match X.char (rest s q) with
              | .error e => .error e
              | .ok (y, r) => X.inside el tag k c (tx ++ Go.Proofs.YteejphiklpnjhaaGreatDoor.W.charL y) ks r) := by
          show _ = _
          rw [HE0.out, X.inside, if_neg HN1.out, if_neg HN2.out, if_neg HN3.out]
          rfl
        clear HN1 HN2 HN3 HE0
        have cN := next_l [60, 33] ⟨#[60, 33]⟩ rfl H4.out.rd.own h2
        cases b1 : [60, 33].isPrefixOf (rest s q)
        · rw [b1] at cN HE1
          clear b1
          go_wp2_with fail
          refine cN.mono ?_
          rintro e w5 ⟨rfl, g3⟩
          have H5 := hid (H4.out.below g3)
          clear g3 cN H4
          have cN := next_l [60, 63] ⟨#[60, 63]⟩ rfl H5.out.rd.own h2
          cases b2 : [60, 63].isPrefixOf (rest s q)
          · rw [b2] at cN HE1
            clear b2
            go_wp2_with fail
            refine cN.mono ?_
            rintro e w6 ⟨rfl, g3⟩
            have H6 := hid (H5.out.below g3)
            clear g3 cN H5
            have cN := next_l [93, 93, 62] ⟨#[93, 93, 62]⟩ rfl H6.out.rd.own h2
            cases b3 : [93, 93, 62].isPrefixOf (rest s q)
            · rw [b3] at cN HE1
              simp only [Bool.or_false, Bool.false_eq_true, if_false] at HE1
              clear b3
              go_wp2_with fail
              refine cN.mono ?_
              rintro e w7 ⟨rfl, g3⟩
              have H7 := hid (H6.out.below g3)
              clear g3 cN H6
              have cN := next_l [60] ⟨#[60]⟩ rfl H7.out.rd.own h2
              cases b4 : [60].isPrefixOf (rest s q)
              · rw [b4] at cN HE1
                simp only [Bool.false_eq_true, if_false] at HE1
                clear b4
                go_wp2_with fail
                refine cN.mono ?_
                rintro e w8 ⟨rfl, g3⟩
                have H8 := hid (H7.out.below g3)
                clear g3 cN H7
                have cN := next_l [38] ⟨#[38]⟩ rfl H8.out.rd.own h2
                cases b5 : [38].isPrefixOf (rest s q)
                · rw [b5] at cN HE1
                  simp only [Bool.false_eq_true, if_false] at HE1
                  clear b5
                  go_wp2_with fail
                  refine cN.mono ?_
                  rintro e w9 ⟨rfl, g3⟩
                  have H9 := hid (H8.out.below g3)
                  clear g3 cN H8
                  have cC := char_any H9.out.rd.own h2 hs (HG.out.rd H9.out.rd hGR)
                  have HF := hid (X.char_fair (rest s q))
                  have HOK := hid (fun y r => @X.char_ok (rest s q) r y)
                  go_wp2_with fail
                  refine cC.mono ?_
                  rintro e w10 (⟨y, r, hx, rfl, hr⟩ | ⟨n, e, hx, rfl, hr⟩)
                  · have hsuf := (HF.out.1 _ _ hx).1
                    have hlen := (HF.out.1 _ _ hx).2
                    have hok := HOK.out _ _ hx
                    rw [rest_len] at hlen
                    have hpos := rest_pos hsuf h2
                    have hre := rest_suf hsuf
                    obtain ⟨u, hu⟩ : ∃ u, s.size - r.length = u := ⟨_, rfl⟩
                    rw [hu] at hr hpos hre
                    have H10 := hid (H9.out.rdr hr)
                    have H5 : Hid (s.size - u < k ∧ u ≤ s.size ∧ (tx ++ Go.Proofs.YteejphiklpnjhaaGreatDoor.W.charL y).length ≤ 4 * u ∧ ks.length ≤ u ∧ c ≤ 1024 ∧ X.inside el tag k c (tx ++ Go.Proofs.YteejphiklpnjhaaGreatDoor.W.charL y) ks (rest s u) = RES) := by
                      refine ⟨by have := HI.out.1; omega, hpos.2, ?_, by omega, h6, by rw [HE1.out, hx, hre]⟩
                      have := charL_le y
                      rw [List.length_append]
                      omega
                    have H6 : Hid (s.size - u < s.size - q) := by show _ < _; omega
                    have hw := writeRune_any (H + 1) (H + 1) tx y hok _ H10.out.ho (by omega) H10.out.ho.bw
                    clear hx hr hsuf hlen hpos hre hu cC HF HOK HE1 hok H9
                    go_wp2_with fail
                    refine hw.mono ?_
                    rintro e w11 ⟨⟨nn, rfl⟩, gh, gb, gk⟩
                    have H7 := hid (H10.out.text gh gb gk)
                    clear gh gb gk hw H10
                    go_wp2_with fail
                    go_roundw
                    case rel => exact ⟨u, k, c, _, ks, va, vc, rfl, H5, H7⟩
                    case measure => rw [H7.out.rd.pos, HPOS.out]; exact H6.out
                  · have HE2 : Hid (RES = .error (n, e)) := by show _ = _; rw [HE1.out, hx]
                    exact ⟨rfl, Or.inr ⟨_, _, HE2.out, rfl, H9.out.rd.g.trans hr⟩⟩
                · have hq : q < s.size := by
                    have := X.pre_len b5
                    rw [rest_len] at this
                    simp at this
                    omega
                  rw [b5] at cN HE1
                  simp only [if_true] at HE1
                  clear b5
                  go_wp2_with fail
                  refine cN.mono ?_
                  rintro e w9 ⟨rfl, g3⟩
                  have H9 := hid (H8.out.below g3)
                  clear g3 cN H8
                  have cC := reference_any H9.out.rd.own hq hs (HG.out.rd H9.out.rd hGR) hGR
                  have HF := hid ((X.ref_fair (rest s q)).less (show 1 ≤ 2 by omega))
                  have HOK := hid (fun y r => @X.ref_ok (rest s q) r y)
                  clear hq
                  go_wp2_with fail
                  refine cC.mono ?_
                  rintro e w10 (⟨y, r, hx, rfl, hr⟩ | ⟨n, e, hx, rfl, hr⟩)
                  · have hsuf := (HF.out.1 _ _ hx).1
                    have hlen := (HF.out.1 _ _ hx).2
                    have hok := HOK.out _ _ hx
                    rw [rest_len] at hlen
                    have hpos := rest_pos hsuf h2
                    have hre := rest_suf hsuf
                    obtain ⟨u, hu⟩ : ∃ u, s.size - r.length = u := ⟨_, rfl⟩
                    rw [hu] at hr hpos hre
                    have H10 := hid (H9.out.rdr hr)
                    have H5 : Hid (s.size - u < k ∧ u ≤ s.size ∧ (tx ++ Go.Proofs.YteejphiklpnjhaaGreatDoor.W.charL y).length ≤ 4 * u ∧ ks.length ≤ u ∧ c ≤ 1024 ∧ X.inside el tag k c (tx ++ Go.Proofs.YteejphiklpnjhaaGreatDoor.W.charL y) ks (rest s u) = RES) := by
                      refine ⟨by have := HI.out.1; omega, hpos.2, ?_, by omega, h6, by rw [HE1.out, hx, hre]⟩
                      have := charL_le y
                      rw [List.length_append]
                      omega
                    have H6 : Hid (s.size - u < s.size - q) := by show _ < _; omega
                    have hw := writeRune_any (H + 1) (H + 1) tx y hok _ H10.out.ho (by omega) H10.out.ho.bw
                    clear hx hr hsuf hlen hpos hre hu cC HF HOK HE1 hok H9
                    go_wp2_with fail
                    refine hw.mono ?_
                    rintro e w11 ⟨⟨nn, rfl⟩, gh, gb, gk⟩
                    have H7 := hid (H10.out.text gh gb gk)
                    clear gh gb gk hw H10
                    go_wp2_with fail
                    go_roundw
                    case rel => exact ⟨u, k, c, _, ks, va, vc, rfl, H5, H7⟩
                    case measure => rw [H7.out.rd.pos, HPOS.out]; exact H6.out
                  · have HE2 : Hid (RES = .error (n, e)) := by show _ = _; rw [HE1.out, hx]
                    exact ⟨rfl, Or.inr ⟨_, _, HE2.out, rfl, H9.out.rd.g.trans hr⟩⟩
              · rw [b4] at cN HE1
                simp only [if_true] at HE1
                clear b4
                go_wp2_with fail
                refine cN.mono ?_
                rintro e w8 ⟨rfl, g3⟩
                have H8 := hid (H7.out.below g3)
                clear g3 cN H7
                obtain ⟨dp, hdp⟩ : ∃ dp, deep + 1 = dp := ⟨_, rfl⟩
                have e1 : IntKind.i64.wrap ((deep : Int) + 1) = (dp : Int) := by rw [IntKind.wrap_i64] <;> omega
                have cE := HELC.out q c w8 M N known H8.out.rd.own h2 h6 (HG.out.rd H8.out.rd hGR) H8.out.km H8.out.hR hN
                rw [HEL.out, hdp] at cE
                obtain ⟨kn, hkn⟩ : ∃ kn, ks.length = kn := ⟨_, rfl⟩
                have HKN := hid hkn
                rw [hkn] at h5 ⊢
                have HKO : Hid (KOwn (H + 2) ks (.slice va kn vc) w8) := by have := H8.out.ko; rw [hkn] at this; exact this
                clear hkn hdp
                go_wp2_with fail
                refine cE.mono ?_
                rintro e w9 (⟨ee, c', r, cs, hx, rfl, hh, hc', hr⟩ | ⟨n, e, hx, rfl, hr⟩)
                · have hsuf := ((HEF.out c (rest s q)).1 _ _ hx).1
                  have hlen := ((HEF.out c (rest s q)).1 _ _ hx).2
                  rw [rest_len] at hlen
                  have hpos := rest_pos hsuf h2
                  have hre := rest_suf hsuf
                  obtain ⟨u, hu⟩ : ∃ u, s.size - r.length = u := ⟨_, rfl⟩
                  rw [hu] at hr hpos hre
                  have H9 := hid (H8.out.rdr hr)
                  have HK9 : Hid (KOwn (H + 2) ks (.slice va kn vc) w9) := by have := H9.out.ko; rw [HKN.out] at this; exact this
                  obtain ⟨av, kv, rfl, hav, hkv⟩ := hh
                  obtain ⟨ava, avc, rfl⟩ := hav.shape
                  obtain ⟨kva, kvc, rfl⟩ := hkv.shape
                  have HHAS : Hid (ee.Has w9 (OwnN w9 w8.heap.size none) [.string ee.sp, .string ee.lo, .slice ava (X.E.as ee).length avc, .slice kva ee.ks.length kvc, .string ee.tx, .int .i64 ee.ln, .int .i64 ee.cl]) := ⟨_, _, rfl, hav, hkv⟩
                  obtain ⟨kcs, hown0, hkcs⟩ := HK9.out
                  rw [HKN.out] at hown0
                  have hlt8 := HKO.out.lt
                  have H5 : Hid (s.size - u < k ∧ u ≤ s.size ∧ tx.length ≤ 4 * u ∧ (ks.snoc ee).length ≤ u ∧ c' ≤ 1024 ∧ X.inside el tag k c' tx (ks.snoc ee) (rest s u) = RES) := by
                    refine ⟨by have := HI.out.1; omega, hpos.2, by omega, ?_, hc', ?_⟩
                    · rw [X.N.snoc_length, HKN.out]; omega
                    · rw [HE1.out, hx, hre]
                  have H6 : Hid (s.size - u < s.size - q) := by show _ < _; omega
                  have HKCS := hid hkcs
                  have HLT8 := hid hlt8
                  have H8S : Hid (H + 2 ≤ w8.heap.size) := by
                    have := H8.out.ho.lt
                    show _ ≤ _
                    omega
                  clear hx hr hsuf hlen hpos hre hu cE HE1 hc' hav hkv hkcs hlt8
                  obtain ⟨w10, hw10⟩ : ∃ w10, w9.alloc (.cells #[.string ee.sp, .string ee.lo, .slice ava (X.E.as ee).length avc, .slice kva ee.ks.length kvc, .string ee.tx, .int .i64 ee.ln, .int .i64 ee.cl] 44) = w10 := ⟨_, rfl⟩
                  obtain ⟨V, hV⟩ : ∃ V, w9.heap.size = V := ⟨_, rfl⟩
                  have hT : w10.heap[V]? = some (.cells #[.string ee.sp, .string ee.lo, .slice ava (X.E.as ee).length avc, .slice kva ee.ks.length kvc, .string ee.tx, .int .i64 ee.ln, .int .i64 ee.cl] 44 (0, 0)) := by rw [← hw10, ← hV]; exact heap_alloc_new w9 _
                  have hb10 : Below w9.heap.size w9 w10 := by rw [← hw10]; exact (Below.refl _ w9).alloc (Nat.le_refl _) _
                  have H10 := hid (H9.out.below hb10)
                  have hown10 : w10.ownsRow (H + 2) 44 7 (.slice va kn vc) kn kcs := World.ownsRow.kept (row := none) hown0 ⟨hb10.os, hb10.tape, hb10.output, hb10.size, fun k hk _ => hb10.block k hk⟩ (Classical.em _)
                  have HC10 : Hid (ks.Cells w10 (OwnN w10 (H + 2) (Value.slice va kn vc).ownBlock) kcs) := X.N.Cells.keep (fun b hb => (hb.keep (KeepN.below hb10 _)).1) (fun b hb => (hb.keep (KeepN.below hb10 _)).2) ks kcs HKCS.out
                  have HH10 : Hid (ee.Has w10 (OwnN w10 (H + 2) (Value.slice va kn vc).ownBlock) [.string ee.sp, .string ee.lo, .slice ava (X.E.as ee).length avc, .slice kva ee.ks.length kvc, .string ee.tx, .int .i64 ee.ln, .int .i64 ee.cl]) := by
                    refine X.E.Has.keep (fun b hb => ?_) (fun b hb => (hb.keep (KeepN.below hb10 _)).2) HHAS.out
                    have h1 := (hb.keep (KeepN.below hb10 _)).1
                    refine ⟨by have := h1.1; have := H8S.out; omega, h1.2.1, fun e => ?_, h1.2.2.2⟩
                    have h2 := (HLT8.out b e).2
                    have h3 := h1.1
                    omega
                  have hnews := World.news_of_block hT
                  have hbase : H + 2 ≤ w10.heap.size := by have := H8S.out; have := H10.out.ho.lt; have := hb10.size; have := Go.lt_of_block hT; have := (H9.out.ho).lt; omega
                  obtain ⟨i0, hi, hz0, hz1, hzz⟩ := info_parts infoNode
                  have HW10 := hid hw10
                  have HVE := hid hV
                  clear hw10 hV hb10 hown0
                  go_wp2_with (at_builtin; (try rw [HW10.out, HVE.out]); refine wpList_append_lies _ rfl _ _ 42 rfl (H + 2) 44 i0 _ 7 112 Tryz.underlying42 hi hz0 hz1 hzz rfl (by decide) (.slice va kn vc) kn kcs rfl hown10 ⟨V, 0, none⟩ 1 1 [.string ee.sp, .string ee.lo, .slice ava (X.E.as ee).length avc, .slice kva ee.ks.length kvc, .string ee.tx, .int .i64 ee.ln, .int .i64 ee.cl] rfl rfl hnews (by intro u hu; simp at hu; rcases hu with rfl | rfl | rfl | rfl | rfl | rfl | rfl <;> rfl) (by decide) (by unfold maxLen; omega) (by omega) hbase _ rfl ?_)
                  intro g1 cap1 w11 hown1 hgrow hat hlt1
                  have hsl := X.N.snoc_length ks ee
                  rw [HKN.out] at hsl
                  have HK11 : Hid (KOwn (H + 2) (ks.snoc ee) (.slice (some ⟨g1, 0, none⟩) (kn + 1) cap1) w11) := by
                    refine KOwn.more (w := w10) (v := .slice va kn vc) HH10.out HC10.out (by rw [HKN.out]; exact hown1) hgrow (fun b hb => ?_)
                    simp only [Value.ownBlock, Option.some.injEq] at hb
                    subst hb
                    rcases hat with hat | hat
                    · exact Or.inl hat
                    · exact Or.inr (by omega)
                  have H11 : Hid (IS W R H M N s tag known u c' tx (ks.snoc ee) (.slice (some ⟨g1, 0, none⟩) (kn + 1) cap1) w11) := by
                    have hlt10 := World.ownsRow.lt hown10
                    have hne : ∀ b, b < H + 2 → some b ≠ (Value.slice va kn vc).ownBlock := fun b hb e => by have := (hlt10 b e.symm).1; omega
                    have hB : Below (H + 2) w10 w11 := (Below.refl _ w10).grown hgrow hbase (fun k hk => (hlt10 k hk).1)
                    have hM := H10.out.hM
                    have hh := H10.out.h
                    refine ⟨H10.out.h, H10.out.rd.build hB (by omega), (hB.block H (by omega)).trans H10.out.nm, ?_, HK11.out, ?_, H10.out.hM, H10.out.hR⟩
                    · refine H10.out.ho.apart hgrow (hne _ (by omega)) (fun k hk => ?_)
                      rcases hown10.2 with ⟨e0, _⟩ | ⟨g2, cap2, cur2, e0, _, hg2, _⟩
                      · rw [e0] at hk; cases hk
                      · rw [e0] at hk
                        simp only [Value.ownBlock, Option.some.injEq] at hk
                        subst hk
                        exact ⟨_, _, _, hg2, by decide⟩
                    · obtain ⟨es, clock, m1, m2, m3, m4⟩ := H10.out.km
                      exact ⟨es, clock, (hB.block M (by omega)).trans m1, m2, m3, m4⟩
                  rw [← hsl] at H11
                  have HSL := hid hsl
                  clear hown1 hgrow hat hlt1 hown10 hT hnews hbase hi hz0 hz1 hzz hsl
                  rw [← HSL.out]
                  go_wp2_with fail
                  go_roundw
                  case rel => exact ⟨u, k, c', tx, ks.snoc ee, _, _, rfl, H5, H11⟩
                  case measure => rw [H11.out.rd.pos, HPOS.out]; exact H6.out
                · have HE2 : Hid (RES = .error (n, e)) := by show _ = _; rw [HE1.out, hx]
                  exact ⟨rfl, Or.inr ⟨_, _, HE2.out, rfl, H8.out.rd.g.trans hr⟩⟩
            · rw [b3] at cN HE1
              simp only [Bool.or_true, if_true] at HE1
              clear b3
              go_wp2_with fail
              refine cN.mono ?_
              rintro e w9 ⟨rfl, g3⟩
              have H9 := hid (H6.out.below g3)
              have cB := bad_any H9.out.rd.own h2
              clear g3 cN
              go_wp2_with fail
              refine cB.mono ?_
              rintro e w10 ⟨rfl, hbl⟩
              exact ⟨rfl, Or.inr ⟨_, _, HE1.out, rfl, (H9.out.rd.below hbl).g⟩⟩
          · rw [b2] at cN HE1
            simp only [Bool.or_true, Bool.true_or, if_true] at HE1
            clear b2
            go_wp2_with fail
            refine cN.mono ?_
            rintro e w9 ⟨rfl, g3⟩
            have H9 := hid (H5.out.below g3)
            have cB := bad_any H9.out.rd.own h2
            clear g3 cN
            go_wp2_with fail
            refine cB.mono ?_
            rintro e w10 ⟨rfl, hbl⟩
            exact ⟨rfl, Or.inr ⟨_, _, HE1.out, rfl, (H9.out.rd.below hbl).g⟩⟩
        · rw [b1] at cN HE1
          simp only [Bool.true_or, if_true] at HE1
          clear b1
          go_wp2_with fail
          refine cN.mono ?_
          rintro e w9 ⟨rfl, g3⟩
          have H9 := hid (H4.out.below g3)
          have cB := bad_any H9.out.rd.own h2
          clear g3 cN
          go_wp2_with fail
          refine cB.mono ?_
          rintro e w10 ⟨rfl, hbl⟩
          exact ⟨rfl, Or.inr ⟨_, _, HE1.out, rfl, (H9.out.rd.below hbl).g⟩⟩
end Go.Proofs.YteejphiklpnjhaaGreatDoor
namespace Go.Proofs.YteejphiklpnjhaaGreatDoor
set_option maxRecDepth 100000
set_option maxHeartbeats 16000000
open Go.RowKit
open Go.Lib (hid)
theorem KeepN.trans {w w1 w2 : World} {B : Nat} (h : KeepN w w1 B) (g : KeepN w1 w2 B) : KeepN w w2 B := ⟨Nat.le_trans h.1 g.1, fun b cs T hB hb hT => g.2 b cs T hB (h.2 b cs T hB hb hT) hT⟩
theorem OwnN.mono {w : World} {B C : Nat} {g0 : Option Nat} {b : Nat} (h : OwnN w B g0 b) (hC : C ≤ B) : OwnN w C g0 b := ⟨Nat.le_trans hC h.1, h.2⟩
theorem OwnN.via {w wf : World} {B C b : Nat} (h : OwnN w B none b) (he : wf.heap[b]? = w.heap[b]?) (hC : C ≤ B) : OwnN wf C none b := by
 obtain ⟨h1, h2, h3, cs, T, h4, h5⟩ := h
 exact ⟨by omega, Go.lt_of_block (he.trans h4), h3, cs, T, he.trans h4, h5⟩
theorem elem_end (R : Nat) (s : ByteArray) (G : Nat) : ElemC G R s 0 16 := by
 intro p c W M N known h hp hc hG hK hM hN
 have HX : Hid (X.elem s.data.toList 0 known c (rest s p) = .error (s.size - p, 84) ∧ s.size - (s.size - p) = p) := by
  refine ⟨?_, by omega⟩
  rw [X.elem, rest_len]
 obtain ⟨w1, hw1⟩ : ∃ w1, W.alloc (.cells #[.string ⟨#[]⟩, .string ⟨#[]⟩, .slice none 0 0, .slice none 0 0, .string ⟨#[]⟩, .int .i64 0, .int .i64 0] 44) = w1 := ⟨_, rfl⟩
 have HR1 : Hid (Rd W R s p c w1) := by show Rd _ _ _ _ _ _; rw [← hw1]; exact h.alloc _
 have HW1 := hid hw1
 obtain ⟨c0, c1, c2⟩ := HR1.out.cells
 have cF := fun U => fail_any 84 (p : Int) U
 clear h hG hK hw1
 go_enter Tryz.func28, Tryz.ntmps28
 go_upto_region 1 with fail
 rw [HW1.out]
 go_wp2_with fail
 refine (cF _).mono ?_
 rintro e w2 ⟨rfl, rfl⟩
 exact ⟨rfl, Or.inr ⟨_, _, HX.out.1, by rw [HX.out.2], HR1.out.g⟩⟩
theorem elem_step {G R d deep : Nat} {s : ByteArray} (hs6 : s.size ≤ 65536) (hGR : G ≤ R) (hE : ElemC G R s d (deep + 1)) (hdeep : deep < 16) : ElemC G R s (d + 1) deep := by
 intro p c W M N known h hp hc hG hK hMR hN
 have hs : s.size ≤ 1000000000000 := by omega
 obtain ⟨RES, hRES⟩ : ∃ x, X.elem s.data.toList (d + 1) known c (rest s p) = x := ⟨_, rfl⟩
 rw [hRES]
 have hSl : s.data.toList.length - (rest s p).length = p := by rw [rest_len, ← Lib.size_eq]; omega
 have HE0 : Hid (RES = if c = 1024 then .error (s.size - p, 3)
     else match X.must [60] (rest s p) with
       | .error e => .error e
       | .ok (_, l1) => match X.name l1 with
         | .error e => .error e
         | .ok (tag, l2) => match X.attrs (l2.length + 1) [] l2 with
           | .error e => .error e
           | .ok ((raws, opn), l3) => match X.resolve (s.size - p) tag raws known with
             | .error e => .error e
             | .ok (sp, al, k) =>
               if opn then
                 match X.inside (X.elem s.data.toList d k) tag (l3.length + 1) (c + 1) [] .nil l3 with
                 | .error e => .error e
                 | .ok (((tx, ks), cnt'), l4) => .ok ((⟨X.ba sp, X.ba tag.2, al, ks, X.ba tx, X.lineOf s.data.toList p, X.colOf s.data.toList p⟩, cnt'), l4)
               else .ok ((⟨X.ba sp, X.ba tag.2, al, .nil, X.ba [], X.lineOf s.data.toList p, X.colOf s.data.toList p⟩, c + 1), l3)) := by
   show _ = _
   rw [← hRES, X.elem, hSl, rest_len]
   rfl
 obtain ⟨H, hH⟩ : ∃ H, W.heap.size = H := ⟨_, rfl⟩
 obtain ⟨w1, hw1⟩ : ∃ w1, W.alloc (.cells #[.string ⟨#[]⟩, .string ⟨#[]⟩, .slice none 0 0, .slice none 0 0, .string ⟨#[]⟩, .int .i64 0, .int .i64 0] 44) = w1 := ⟨_, rfl⟩
 have HZ1 : Hid (w1.heap[H]? = some (nodeRow ⟨#[]⟩ ⟨#[]⟩ (.slice none 0 0) (.slice none 0 0) ⟨#[]⟩ 0 0)) := by show _ = _; rw [← hw1, ← hH]; exact heap_alloc_new W _
 have HR1 : Hid (Rd W R s p c w1) := by show Rd _ _ _ _ _ _; rw [← hw1]; exact h.alloc _
 have HK1 : Hid (KM w1 M N known) := by show KM _ _ _ _; rw [← hw1]; exact hK.below ((Below.refl _ W).alloc (Nat.le_refl _) _)
 have HRH : Hid (R < H) := by have := h.lt; show _ < _; omega
 have HMH : Hid (M < H) := by
   obtain ⟨es, clock, m1, _⟩ := hK
   have := Go.lt_of_block m1
   show _ < _
   omega
 have HEC := hid hE
 have HG := hid hG
 have HW1 := hid hw1
 have HH := hid hH
 obtain ⟨c0, c1, c2⟩ := HR1.out.cells
 have f2 := HR1.out.free 2
 have t0 : ((deep : Int) == 16) = false := beq_eq_false_iff_ne.2 (by omega)
 clear hE h hG hK hw1 hH hRES hSl
 by_cases hc4 : c = 1024
 · have HE1 : Hid (RES = .error (s.size - p, 3) ∧ s.size - (s.size - p) = p) := ⟨by rw [HE0.out, if_pos hc4], by omega⟩
   have t1 : ((c : Int) == 1024) = true := by rw [hc4]; rfl
   have cF := fun U => fail_any 3 (p : Int) U
   clear HE0 hc4
   go_enter Tryz.func28, Tryz.ntmps28
   go_upto_region 1 with fail
   rw [HW1.out, HH.out]
   go_wp2_with fail
   refine (cF _).mono ?_
   rintro e w2 ⟨rfl, rfl⟩
   exact ⟨rfl, Or.inr ⟨_, _, HE1.out.1, by rw [HE1.out.2], HR1.out.g⟩⟩
 have t1 : ((c : Int) == 1024) = false := beq_eq_false_iff_ne.2 (by omega)
 obtain ⟨c', hc'⟩ : ∃ c', c + 1 = c' := ⟨_, rfl⟩
 have hc'4 : c' ≤ 1024 := by omega
 have e1 : IntKind.i64.wrap ((c : Int) + 1) = (c' : Int) := by rw [IntKind.wrap_i64] <;> omega
 have HE1 : Hid (RES = match X.must [60] (rest s p) with
       | .error e => .error e
       | .ok (_, l1) => match X.name l1 with
         | .error e => .error e
         | .ok (tag, l2) => match X.attrs (l2.length + 1) [] l2 with
           | .error e => .error e
           | .ok ((raws, opn), l3) => match X.resolve (s.size - p) tag raws known with
             | .error e => .error e
             | .ok (sp, al, k) =>
               if opn then
                 match X.inside (X.elem s.data.toList d k) tag (l3.length + 1) c' [] .nil l3 with
                 | .error e => .error e
                 | .ok (((tx, ks), cnt'), l4) => .ok ((⟨X.ba sp, X.ba tag.2, al, ks, X.ba tx, X.lineOf s.data.toList p, X.colOf s.data.toList p⟩, cnt'), l4)
               else .ok ((⟨X.ba sp, X.ba tag.2, al, .nil, X.ba [], X.lineOf s.data.toList p, X.colOf s.data.toList p⟩, c'), l3)) := by
   show _ = _
   rw [HE0.out, if_neg hc4, hc']
 clear HE0 hc4 hc'
 obtain ⟨w2, hw2⟩ : ∃ w2, w1.setCell ⟨R, 2, none⟩ (.int .i64 c') = w2 := ⟨_, rfl⟩
 have HR2 : Hid (Rd W R s p c' w2) := by show Rd _ _ _ _ _ _; rw [← hw2]; exact HR1.out.set2 c'
 have g12 : w1.grownBy w2 (some R) := by rw [← hw2]; exact grownBy_set w1 R 2 _
 have HZ2 : Hid (w2.heap[H]? = some (nodeRow ⟨#[]⟩ ⟨#[]⟩ (.slice none 0 0) (.slice none 0 0) ⟨#[]⟩ 0 0)) := (g12.block H (Go.lt_of_block HZ1.out) (fun e => by have := Option.some.inj e; have := HRH.out; omega)).trans HZ1.out
 have HK2 : Hid (KM w2 M N known) := HK1.out.grown g12 (fun e => hMR (Option.some.inj e).symm)
 have HW2 := hid hw2
 have cM := must_l [60] ⟨#[60]⟩ rfl HR2.out.own hp hs
 have HFM := hid (X.must_fair [60] (rest s p))
 clear hw2 g12 HK1 HZ1
 go_enter Tryz.func28, Tryz.ntmps28
 go_upto_region 1 with fail
 rw [HW1.out, HH.out]
 go_upto_region 7 with fail
 rw [HW2.out]
 clear HW1 HW2 HR1 c0 c1 c2 f2 t0 t1 e1
 go_wp2_with fail
 refine cM.mono ?_
 rintro e w3 (⟨_, r, hx, rfl, hr⟩ | ⟨m, e, hx, rfl, hr⟩)
 · have hsuf := (HFM.out.1 _ _ hx).1
   have hpos := rest_pos hsuf hp
   have hre := rest_suf hsuf
   obtain ⟨u, hu⟩ : ∃ u, s.size - r.length = u := ⟨_, rfl⟩
   rw [hu] at hr hpos hre
   have hus := hpos.2
   have HE2 : Hid (RES = match X.name (rest s u) with
         | .error e => .error e
         | .ok (tag, l2) => match X.attrs (l2.length + 1) [] l2 with
           | .error e => .error e
           | .ok ((raws, opn), l3) => match X.resolve (s.size - p) tag raws known with
             | .error e => .error e
             | .ok (sp, al, k) =>
               if opn then
                 match X.inside (X.elem s.data.toList d k) tag (l3.length + 1) c' [] .nil l3 with
                 | .error e => .error e
                 | .ok (((tx, ks), cnt'), l4) => .ok ((⟨X.ba sp, X.ba tag.2, al, ks, X.ba tx, X.lineOf s.data.toList p, X.colOf s.data.toList p⟩, cnt'), l4)
               else .ok ((⟨X.ba sp, X.ba tag.2, al, .nil, X.ba [], X.lineOf s.data.toList p, X.colOf s.data.toList p⟩, c'), l3)) := by
     show _ = _
     rw [HE1.out, hx, ← hre]
   have HR3 := hid (HR2.out.trans hr)
   have HZ3 : Hid (w3.heap[H]? = some (nodeRow ⟨#[]⟩ ⟨#[]⟩ (.slice none 0 0) (.slice none 0 0) ⟨#[]⟩ 0 0)) := (hr.g.block H (Go.lt_of_block HZ2.out) (fun e => by have := Option.some.inj e; have := HRH.out; omega)).trans HZ2.out
   have HK3 : Hid (KM w3 M N known) := HK2.out.grown hr.g (fun e => hMR (Option.some.inj e).symm)
   have cN := name_any HR3.out.own hus hs
   have HFN := hid (X.name_fair (rest s u))
   clear hx hr hsuf hpos hre hu cM HFM HE1 HR2 HZ2 HK2
   go_wp2_with fail
   refine cN.mono ?_
   rintro e w4 (⟨tag, r, hx, rfl, hr⟩ | ⟨m, e, hx, rfl, hr⟩)
   · have hsuf := (HFN.out.1 _ _ hx).1
     have hpos := rest_pos hsuf hus
     have hre := rest_suf hsuf
     have HNL := hid (X.name_len hx)
     obtain ⟨v, hv⟩ : ∃ v, s.size - r.length = v := ⟨_, rfl⟩
     rw [hv] at hr hpos hre
     have hvs := hpos.2
     have HE3 : Hid (RES = match X.attrs ((rest s v).length + 1) [] (rest s v) with
           | .error e => .error e
           | .ok ((raws, opn), l3) => match X.resolve (s.size - p) tag raws known with
             | .error e => .error e
             | .ok (sp, al, k) =>
               if opn then
                 match X.inside (X.elem s.data.toList d k) tag (l3.length + 1) c' [] .nil l3 with
                 | .error e => .error e
                 | .ok (((tx, ks), cnt'), l4) => .ok ((⟨X.ba sp, X.ba tag.2, al, ks, X.ba tx, X.lineOf s.data.toList p, X.colOf s.data.toList p⟩, cnt'), l4)
               else .ok ((⟨X.ba sp, X.ba tag.2, al, .nil, X.ba [], X.lineOf s.data.toList p, X.colOf s.data.toList p⟩, c'), l3)) := by
       show _ = _
       rw [HE2.out, hx, ← hre]
     obtain ⟨Q, hQ⟩ : ∃ Q, w4.heap.size = Q := ⟨_, rfl⟩
     obtain ⟨w5, hw5⟩ : ∃ w5, w4.alloc (.cells #[.string (X.ba tag.1), .string (X.ba tag.2)] 82) = w5 := ⟨_, rfl⟩
     have HT5 : Hid (w5.heap[Q]? = some (nameRow tag)) := by show _ = _; rw [← hw5, ← hQ]; exact heap_alloc_new w4 _
     have hb5 : Below w4.heap.size w4 w5 := by rw [← hw5]; exact (Below.refl _ w4).alloc (Nat.le_refl _) _
     have HR5 : Hid (Rd W R s v c' w5) := (HR3.out.trans hr).below hb5
     have hz4 : w4.heap[H]? = some (nodeRow ⟨#[]⟩ ⟨#[]⟩ (.slice none 0 0) (.slice none 0 0) ⟨#[]⟩ 0 0) := (hr.g.block H (Go.lt_of_block HZ3.out) (fun e => by have := Option.some.inj e; have := HRH.out; omega)).trans HZ3.out
     have HZ5 : Hid (w5.heap[H]? = some (nodeRow ⟨#[]⟩ ⟨#[]⟩ (.slice none 0 0) (.slice none 0 0) ⟨#[]⟩ 0 0)) := (hb5.block H (Go.lt_of_block hz4)).trans hz4
     have HK5 : Hid (KM w5 M N known) := (HK3.out.grown hr.g (fun e => hMR (Option.some.inj e).symm)).below hb5
     have HQ5 : Hid (H < Q) := by have := Go.lt_of_block hz4; show _ < _; omega
     have HW5 := hid hw5
     have HQE := hid hQ
     have cA := attrs_any (f := (rest s v).length + 1) (by rw [rest_len]; omega) HR5.out.own hvs hs (HG.out.rd HR5.out hGR) hGR
     have HFA := hid (X.attrs_fair ((rest s v).length + 1) [] (rest s v))
     clear hx hr hsuf hpos hre hv cN HFN HE2 HR3 HZ3 HK3 hw5 hQ hb5 hz4
     unfold nameV
     go_upto_region 9 with fail
     rw [HW5.out, HQE.out]
     clear HW5 HQE
     go_wp2_with fail
     refine cA.mono ?_
     rintro e w6 (⟨raws, opn, r, rv, hx, rfl, hlr, hro, hr⟩ | ⟨m, e, hx, rfl, hr⟩)
     · have hsuf := (HFA.out.1.1 _ _ hx).1
       have hpos := rest_pos hsuf hvs
       have hre := rest_suf hsuf
       obtain ⟨x, hxx⟩ : ∃ x, s.size - r.length = x := ⟨_, rfl⟩
       rw [hxx] at hr hpos hre
       have hxs := hpos.2
       have HSM := hid (X.attrs_small (M := 1000000) _ _ _ _ _ _ (by rw [rest_len]; omega) (by intro y hy; cases hy) hx)
       have HE4 : Hid (RES = match X.resolve (s.size - p) tag raws known with
             | .error e => .error e
             | .ok (sp, al, k) =>
               if opn then
                 match X.inside (X.elem s.data.toList d k) tag ((rest s x).length + 1) c' [] .nil (rest s x) with
                 | .error e => .error e
                 | .ok (((tx, ks), cnt'), l4) => .ok ((⟨X.ba sp, X.ba tag.2, al, ks, X.ba tx, X.lineOf s.data.toList p, X.colOf s.data.toList p⟩, cnt'), l4)
               else .ok ((⟨X.ba sp, X.ba tag.2, al, .nil, X.ba [], X.lineOf s.data.toList p, X.colOf s.data.toList p⟩, c'), (rest s x))) := by
         show _ = _
         rw [HE3.out, hx, ← hre]
       have HR6 := hid (HR5.out.trans hr)
       have hne : ∀ b, b ≠ R → b < w5.heap.size → w6.heap[b]? = w5.heap[b]? := fun b hb hl => hr.g.block b hl (fun e => hb (Option.some.inj e))
       have HZ6 : Hid (w6.heap[H]? = some (nodeRow ⟨#[]⟩ ⟨#[]⟩ (.slice none 0 0) (.slice none 0 0) ⟨#[]⟩ 0 0)) := (hne H (by have := HRH.out; omega) (Go.lt_of_block HZ5.out)).trans HZ5.out
       have HT6 : Hid (w6.heap[Q]? = some (nameRow tag)) := (hne Q (by have := HRH.out; have := HQ5.out; omega) (Go.lt_of_block HT5.out)).trans HT5.out
       have HK6 : Hid (KM w6 M N known) := HK5.out.grown hr.g (fun e => hMR (Option.some.inj e).symm)
       have hrv : ∃ a n c, rv = .slice a n c := by
         rcases hro.2 with ⟨rfl, _⟩ | ⟨g, cap, cur, rfl, _⟩
         · exact ⟨_, _, _, rfl⟩
         · exact ⟨_, _, _, rfl⟩
       have cR := resolve_any (n := s.size - p) (at_ := p) tag (RawsIn.of hro) hlr HK6.out (by omega) (by omega) HNL.out HSM.out
       obtain ⟨ra, rn, rc, rfl⟩ := hrv
       obtain ⟨q0, q1⟩ := row2 (show w6.heap[Q]? = some (.cells #[.string (X.ba tag.1), .string (X.ba tag.2)] 82 (0, 0)) from HT6.out)
       unfold nameV at cR
       clear hx hr hsuf hpos hre hxx cA HFA HE3 HR5 HZ5 HT5 HK5 hne hro hlr HSM
       go_wp2_with fail
       refine cR.mono ?_
       rintro e w7 (⟨sp, al, k, M2, av, hx, rfl, hao, hal, hM2, hk2, hb7⟩ | ⟨m, e, hx, rfl, hb7⟩)
       · obtain ⟨ava, avc, rfl⟩ := hao.shape
         have hai := hao.is
         obtain ⟨aln, haln⟩ : ∃ aln, al.length = aln := ⟨_, rfl⟩
         rw [haln] at hai ⊢
         obtain ⟨spb, hspb⟩ : ∃ spb, X.ba sp = spb := ⟨_, rfl⟩
         obtain ⟨lob, hlob⟩ : ∃ lob, X.ba tag.2 = lob := ⟨_, rfl⟩
         have HE5 : Hid (RES = if opn then
               match X.inside (X.elem s.data.toList d k) tag ((rest s x).length + 1) c' [] .nil (rest s x) with
               | .error e => .error e
               | .ok (((tx, ks), cnt'), l4) => .ok ((⟨spb, lob, al, ks, X.ba tx, X.lineOf s.data.toList p, X.colOf s.data.toList p⟩, cnt'), l4)
             else .ok ((⟨spb, lob, al, .nil, X.ba [], X.lineOf s.data.toList p, X.colOf s.data.toList p⟩, c'), (rest s x))) := by
           show _ = _
           rw [HE4.out, hx, ← hspb, ← hlob]
         have HAI := hid hai
         obtain ⟨D, hD⟩ : ∃ D, w7.heap.size = D := ⟨_, rfl⟩
         obtain ⟨w8, hw8⟩ : ∃ w8, w7.alloc (.cells #[.string spb, .string lob, .slice ava aln avc, .slice none 0 0, .string ⟨#[]⟩, .int .i64 0, .int .i64 0] 44) = w8 := ⟨_, rfl⟩
         have HD8 : Hid (w8.heap[D]? = some (nodeRow spb lob (.slice ava aln avc) (.slice none 0 0) ⟨#[]⟩ 0 0)) := by show _ = _; rw [← hw8, ← hD]; exact heap_alloc_new w7 _
         have hb8 : Below w7.heap.size w7 w8 := by rw [← hw8]; exact (Below.refl _ w7).alloc (Nat.le_refl _) _
         have HB68 : Hid (Below w6.heap.size w6 w8) := hb7.trans (hb8.mono hb7.size)
         have HR8 : Hid (Rd W R s x c' w8) := HR6.out.below HB68.out
         have HSZ : Hid (H < Q ∧ Q < w6.heap.size ∧ R < H ∧ w6.heap.size ≤ w7.heap.size ∧ w7.heap.size = D ∧ W.heap.size = H) := by
           have := Go.lt_of_block HT6.out
           have := HQ5.out
           have := HRH.out
           have := hb7.size
           have := HH.out
           refine ⟨?_, ?_, ?_, ?_, hD, ?_⟩ <;> omega
         have HK8 : Hid (KM w8 M2 (N + 32) k) := hk2.below hb8
         have HM8 : Hid (M2 ≠ R) := by have := HSZ.out; show _ ≠ _; omega
         have cP := place_any s p hp hs w8
         unfold posV at cP
         obtain ⟨ln, hln⟩ : ∃ ln, X.lineOf s.data.toList p = ln := ⟨_, rfl⟩
         obtain ⟨cl, hcl⟩ : ∃ cl, X.colOf s.data.toList p = cl := ⟨_, rfl⟩
         rw [hln, hcl] at cP HE5
         have HB78 := hid hb8
         have HW8 := hid hw8
         have HDE := hid hD
         rw [hspb, hlob]
         clear hx hao hai hb7 hb8 hk2 hw8 hD hln hcl cR HE4 haln hspb q0 q1 HK6 HNL hal HR6
         go_upto_region 11 with fail
         rw [HW8.out, HDE.out]
         clear HW8 HDE
         obtain ⟨c0, c1, -⟩ := HR8.out.cells
         go_wp2_with fail
         refine cP.mono ?_
         rintro e w9 ⟨rfl, g3⟩
         have HB79 : Hid (Below w7.heap.size w7 w9) := HB78.out.trans (g3.mono HB78.out.size)
         have HD9 : Hid (w9.heap[D]? = some (nodeRow spb lob (.slice ava aln avc) (.slice none 0 0) ⟨#[]⟩ 0 0)) := (g3.block D (Go.lt_of_block HD8.out)).trans HD8.out
         have HR9 : Hid (Rd W R s x c' w9) := HR8.out.below g3
         have HK9 : Hid (KM w9 M2 (N + 32) k) := HK8.out.below g3
         have HM8' : Hid (M2 < w8.heap.size) := by
           obtain ⟨es, clock, m1, _⟩ := HK8.out
           exact Go.lt_of_block m1
         have HZ9 : Hid (w9.heap[H]? = some (nodeRow ⟨#[]⟩ ⟨#[]⟩ (.slice none 0 0) (.slice none 0 0) ⟨#[]⟩ 0 0)) := by
           have := HSZ.out
           show _ = _
           rw [g3.block H (by have := HB68.out.size; omega), HB68.out.block H (by omega)]
           exact HZ6.out
         have HT9 : Hid (w9.heap[Q]? = some (nameRow tag)) := by
           have := HSZ.out
           show _ = _
           rw [g3.block Q (by have := HB68.out.size; omega), HB68.out.block Q (by omega)]
           exact HT6.out
         obtain ⟨w10, hw10⟩ : ∃ w10, (w9.setCell ⟨D, 5, none⟩ (.int .i64 ln)).setCell ⟨D, 6, none⟩ (.int .i64 cl) = w10 := ⟨_, rfl⟩
         have g910 : w9.grownBy w10 (some D) := by rw [← hw10]; exact (grownBy_set w9 D 5 _).trans (grownBy_set _ D 6 _)
         have HD10 : Hid (w10.heap[D]? = some (nodeRow spb lob (.slice ava aln avc) (.slice none 0 0) ⟨#[]⟩ ln cl)) := by
           show _ = _
           rw [← hw10]
           have := row_set (row_set HD9.out 5 (.int .i64 ln)) 6 (.int .i64 cl)
           simp only [List.setIfInBounds_toArray, List.set_cons_zero, List.set_cons_succ] at this
           exact this
         have HR10 : Hid (Rd W R s x c' w10) := by
           have := HSZ.out
           show Rd _ _ _ _ _ _
           rw [← hw10]
           exact (HR9.out.put (by omega) 5 _).put (by omega) 6 _
         have hneD : ∀ b, b ≠ D → b < w9.heap.size → w10.heap[b]? = w9.heap[b]? := fun b hb hl => g910.block b hl (fun e => hb (Option.some.inj e))
         have HZ10 : Hid (w10.heap[H]? = some (nodeRow ⟨#[]⟩ ⟨#[]⟩ (.slice none 0 0) (.slice none 0 0) ⟨#[]⟩ 0 0)) := (hneD H (by have := HSZ.out; omega) (Go.lt_of_block HZ9.out)).trans HZ9.out
         have HT10 : Hid (w10.heap[Q]? = some (nameRow tag)) := (hneD Q (by have := HSZ.out; omega) (Go.lt_of_block HT9.out)).trans HT9.out
         have HMD : Hid (M2 ≠ D) := by
           intro e
           obtain ⟨es, clock, m1, _⟩ := HK9.out
           rw [e, HD9.out] at m1
           cases m1
         have HK10 : Hid (KM w10 M2 (N + 32) k) := HK9.out.grown g910 (fun e => HMD.out (Option.some.inj e).symm)
         have HF10 : Hid (∀ b, b < D → w10.heap[b]? = w7.heap[b]?) := by
           have := HSZ.out
           have := HB79.out.size
           intro b hb
           rw [hneD b (by omega) (by omega), HB79.out.block b (by omega)]
         have z5 := rowFree HD9.out 5
         have z6 := rowFree HD9.out 6
         obtain ⟨-, -, -, -, -, y5, y6⟩ := row7 HD9.out
         have HW10 := hid hw10
         clear g3 cP hw10 g910 hneD HD8 HR8 HK8 HM8' HB78 HB79 HZ6 HT6 c0 c1 HB68
         go_upto_region 12 with fail
         rw [HW10.out]
         clear HW10 HD9 HR9 HK9 HZ9 HT9 z5 z6 y5 y6
         cases opn with
         | false =>
           have HE6 : Hid (RES = .ok ((⟨spb, lob, al, .nil, X.ba [], ln, cl⟩, c'), rest s x) ∧ s.size - (rest s x).length = x) := ⟨by rw [HE5.out]; rfl, by rw [rest_len]; omega⟩
           obtain ⟨y0, y1, y2, y3, y4, y5, y6⟩ := row7 HD10.out
           have HZN := HZ10.out
           unfold nodeRow at HZN
           obtain ⟨x0, x1, x2, x3, x4, x5, x6⟩ := row7 HZN
           have f0 := rowFree HZN 0
           have f1 := rowFree HZN 1
           have f2 := rowFree HZN 2
           have f3 := rowFree HZN 3
           have f4 := rowFree HZN 4
           have f5 := rowFree HZN 5
           have f6 := rowFree HZN 6
           have HZN2 := hid HZN
           clear HZN HE5
           go_wp2_with fail
           have gf := st7_grown w10 H (.string spb) (.string lob) (.slice ava aln avc) (.slice none 0 0) (.string ⟨#[]⟩) (.int .i64 ln) (.int .i64 cl)
           have hfar : ∀ b, w6.heap.size ≤ b → b < w7.heap.size → (st7 w10 H (.string spb) (.string lob) (.slice ava aln avc) (.slice none 0 0) (.string ⟨#[]⟩) (.int .i64 ln) (.int .i64 cl)).heap[b]? = w7.heap[b]? := by
             intro b h1 h2
             have := HSZ.out
             have hl : b < w10.heap.size := by have := Go.lt_of_block HD10.out; omega
             rw [gf.block b hl (fun e => by have := Option.some.inj e; omega), HF10.out b (by omega)]
           exact bodyPost_ret (v := .agg #[.string spb, .string lob, .slice ava aln avc, .slice none 0 0, .string ⟨#[]⟩, .int .i64 ln, .int .i64 cl]) (results_cell_row rfl _ _ H 44 _ (0, 0) _ rfl (st7_row HZN2.out _ _ _ _ _ _ _) Tryz.underlying44 rfl sizeNode) rfl (Or.inl ⟨_, _, _, [.string spb, .string lob, .slice ava aln avc, .slice none 0 0, .string ⟨#[]⟩, .int .i64 ln, .int .i64 cl], HE6.out.1, rfl, ⟨_, _, rfl, X.AIn.keep (fun b hb => hb.via (hfar b hb.1 hb.2.1) (by have := HSZ.out; omega)) (fun b hb => hfar b hb.1 hb.2.1) HAI.out, Or.inl ⟨rfl, none, 0, rfl, fun _ => rfl⟩⟩, hc'4, by rw [HE6.out.2]; exact (((((((HR10.out.put (by have := HSZ.out; omega) 0 _).put (by have := HSZ.out; omega) 1 _).put (by have := HSZ.out; omega) 2 _).put (by have := HSZ.out; omega) 3 _).put (by have := HSZ.out; omega) 4 _).put (by have := HSZ.out; omega) 5 _).put (by have := HSZ.out; omega) 6 _)⟩)
         | true =>
           have HE6 : Hid (RES = match X.inside (X.elem s.data.toList d k) tag ((rest s x).length + 1) c' [] .nil (rest s x) with
               | .error e => .error e
               | .ok (((tx, ks), cnt'), l4) => .ok ((⟨spb, lob, al, ks, X.ba tx, ln, cl⟩, cnt'), l4)) := by show _ = _; rw [HE5.out]; rfl
           have cI := inside_any (f := (rest s x).length + 1) (p := x) (c := c') (W := w10) (known := k) (M := M2) (N := N + 32) tag HEC.out hdeep (by rw [rest_len]; omega) HR10.out.own hxs hs hc'4 (HG.out.rd HR10.out hGR) hGR HK10.out HM8.out (by omega)
           unfold nameV at cI
           rw [hlob] at cI
           have HT10' := HT10.out
           unfold nameRow at HT10'
           rw [hlob] at HT10'
           obtain ⟨q0, q1⟩ := row2 HT10'
           clear HE5 HT10'
           go_wp2_with fail
           refine cI.mono ?_
           rintro e w11 (⟨tx, ks, c4, r, kv, hx, rfl, hkv, hc4, hr⟩ | ⟨m, e, hx, rfl, hr⟩)
           · have HE7 : Hid (RES = .ok ((⟨spb, lob, al, ks, X.ba tx, ln, cl⟩, c4), r)) := by show _ = _; rw [HE6.out, hx]
             have HR11 := hid (HR10.out.trans hr)
             have hne : ∀ b, b ≠ R → b < w10.heap.size → w11.heap[b]? = w10.heap[b]? := fun b hb hl => hr.g.block b hl (fun e => hb (Option.some.inj e))
             have HD11 : Hid (w11.heap[D]? = some (nodeRow spb lob (.slice ava aln avc) (.slice none 0 0) ⟨#[]⟩ ln cl)) := (hne D (by have := HSZ.out; omega) (Go.lt_of_block HD10.out)).trans HD10.out
             have HZ11 : Hid (w11.heap[H]? = some (nodeRow ⟨#[]⟩ ⟨#[]⟩ (.slice none 0 0) (.slice none 0 0) ⟨#[]⟩ 0 0)) := (hne H (by have := HSZ.out; omega) (Go.lt_of_block HZ10.out)).trans HZ10.out
             have HF11 : Hid (∀ b, w6.heap.size ≤ b → b < D → w11.heap[b]? = w7.heap[b]?) := by
               have := HSZ.out
               have hl := Go.lt_of_block HD10.out
               intro b h1 h2
               rw [hne b (by omega) (by omega), HF10.out b h2]
             have HDL : Hid (D < w10.heap.size ∧ H < w10.heap.size ∧ w10.heap.size ≤ w11.heap.size) := ⟨Go.lt_of_block HD10.out, Go.lt_of_block HZ10.out, hr.g.size⟩
             obtain ⟨kva, kvc, rfl⟩ := hkv.shape
             have HKV := hid hkv
             obtain ⟨txb, htxb⟩ : ∃ txb, X.ba tx = txb := ⟨_, rfl⟩
             obtain ⟨kn, hkn⟩ : ∃ kn, ks.length = kn := ⟨_, rfl⟩
             rw [htxb] at HE7 ⊢
             rw [hkn] at HKV ⊢
             obtain ⟨w12, hw12⟩ : ∃ w12, (w11.setCell ⟨D, 4, none⟩ (.string txb)).setCell ⟨D, 3, none⟩ (.slice kva kn kvc) = w12 := ⟨_, rfl⟩
             have g12 : w11.grownBy w12 (some D) := by rw [← hw12]; exact (grownBy_set w11 D 4 _).trans (grownBy_set _ D 3 _)
             have HD12 : Hid (w12.heap[D]? = some (nodeRow spb lob (.slice ava aln avc) (.slice kva kn kvc) txb ln cl)) := by
               show _ = _
               rw [← hw12]
               have := row_set (row_set HD11.out 4 (.string txb)) 3 (.slice kva kn kvc)
               simp only [List.setIfInBounds_toArray, List.set_cons_zero, List.set_cons_succ] at this
               exact this
             have HR12 : Hid (Rd W R s (s.size - r.length) c4 w12) := by
               have := HSZ.out
               show Rd _ _ _ _ _ _
               rw [← hw12]
               exact (HR11.out.put (by omega) 4 _).put (by omega) 3 _
             have HZ12 : Hid (w12.heap[H]? = some (nodeRow ⟨#[]⟩ ⟨#[]⟩ (.slice none 0 0) (.slice none 0 0) ⟨#[]⟩ 0 0)) := (g12.block H (Go.lt_of_block HZ11.out) (fun e => by have := Option.some.inj e; have := HSZ.out; omega)).trans HZ11.out
             have HF12 : Hid (∀ b, b ≠ D → b < w11.heap.size → w12.heap[b]? = w11.heap[b]?) := fun b hb hl => g12.block b hl (fun e => hb (Option.some.inj e))
             have z3 := rowFree HD11.out 3
             have z4 := rowFree HD11.out 4
             obtain ⟨-, -, -, y3, y4, -, -⟩ := row7 HD11.out
             have HW12 := hid hw12
             clear hx hr hne cI hkv htxb hkn hw12 g12 HE6 q0 q1
             go_upto_region 14 with fail
             rw [HW12.out]
             clear HW12 HD11 HZ11 z3 z4 y3 y4
             obtain ⟨y0, y1, y2, y3, y4, y5, y6⟩ := row7 HD12.out
             have HZN := HZ12.out
             unfold nodeRow at HZN
             obtain ⟨x0, x1, x2, x3, x4, x5, x6⟩ := row7 HZN
             have f0 := rowFree HZN 0
             have f1 := rowFree HZN 1
             have f2 := rowFree HZN 2
             have f3 := rowFree HZN 3
             have f4 := rowFree HZN 4
             have f5 := rowFree HZN 5
             have f6 := rowFree HZN 6
             have HZN2 := hid HZN
             clear HZN
             go_wp2_with fail
             have gf := st7_grown w12 H (.string spb) (.string lob) (.slice ava aln avc) (.slice kva kn kvc) (.string txb) (.int .i64 ln) (.int .i64 cl)
             have hsz12 := HR12.out.g.size
             have hfar : ∀ b, w6.heap.size ≤ b → b < w7.heap.size → (st7 w12 H (.string spb) (.string lob) (.slice ava aln avc) (.slice kva kn kvc) (.string txb) (.int .i64 ln) (.int .i64 cl)).heap[b]? = w7.heap[b]? := by
               intro b h1 h2
               have := HSZ.out
               have := HDL.out
               have hl : b < w12.heap.size := by have := Go.lt_of_block HD12.out; omega
               rw [gf.block b hl (fun e => by have := Option.some.inj e; omega), HF12.out b (by omega) (by omega), HF11.out b h1 (by omega)]
             have hfar2 : ∀ b, w10.heap.size ≤ b → b < w11.heap.size → (st7 w12 H (.string spb) (.string lob) (.slice ava aln avc) (.slice kva kn kvc) (.string txb) (.int .i64 ln) (.int .i64 cl)).heap[b]? = w11.heap[b]? := by
               intro b h1 h2
               have := HSZ.out
               have := HDL.out
               have h3 := HF12.out b (by omega) h2
               have hl : b < w12.heap.size := by
                 rcases Nat.lt_or_ge b w12.heap.size with h' | h'
                 · exact h'
                 · rw [Array.getElem?_eq_none h', Array.getElem?_eq_getElem h2] at h3
                   cases h3
               rw [gf.block b hl (fun e => by have := Option.some.inj e; omega), h3]
             exact bodyPost_ret (v := .agg #[.string spb, .string lob, .slice ava aln avc, .slice kva kn kvc, .string txb, .int .i64 ln, .int .i64 cl]) (results_cell_row rfl _ _ H 44 _ (0, 0) _ rfl (st7_row HZN2.out _ _ _ _ _ _ _) Tryz.underlying44 rfl sizeNode) rfl (Or.inl ⟨_, _, _, [.string spb, .string lob, .slice ava aln avc, .slice kva kn kvc, .string txb, .int .i64 ln, .int .i64 cl], HE7.out, rfl, ⟨_, _, rfl, X.AIn.keep (fun b hb => hb.via (hfar b hb.1 hb.2.1) (by have := HSZ.out; omega)) (fun b hb => hfar b hb.1 hb.2.1) HAI.out, X.N.In.keep (fun b hb => hb.via (hfar2 b hb.1 hb.2.1) (by have := HSZ.out; have := HDL.out; omega)) (fun b hb => hfar2 b hb.1 hb.2.1) HKV.out⟩, hc4, (((((((HR12.out.put (by have := HSZ.out; omega) 0 _).put (by have := HSZ.out; omega) 1 _).put (by have := HSZ.out; omega) 2 _).put (by have := HSZ.out; omega) 3 _).put (by have := HSZ.out; omega) 4 _).put (by have := HSZ.out; omega) 5 _).put (by have := HSZ.out; omega) 6 _)⟩)
           · have HE7 : Hid (RES = .error (m, e)) := by show _ = _; rw [HE6.out, hx]
             exact ⟨rfl, Or.inr ⟨_, _, HE7.out, rfl, HR10.out.g.trans hr⟩⟩
       · have HE5 : Hid (RES = .error (m, e)) := by show _ = _; rw [HE4.out, hx]
         exact ⟨rfl, Or.inr ⟨_, _, HE5.out, rfl, (HR6.out.below hb7).g⟩⟩
     · have HE4 : Hid (RES = .error (m, e)) := by show _ = _; rw [HE3.out, hx]
       exact ⟨rfl, Or.inr ⟨_, _, HE4.out, rfl, HR5.out.g.trans hr⟩⟩
   · have HE3 : Hid (RES = .error (m, e)) := by show _ = _; rw [HE2.out, hx]
     exact ⟨rfl, Or.inr ⟨_, _, HE3.out, rfl, HR3.out.g.trans hr⟩⟩
 · have HE2 : Hid (RES = .error (m, e)) := by show _ = _; rw [HE1.out, hx]
   exact ⟨rfl, Or.inr ⟨_, _, HE2.out, rfl, HR2.out.g.trans hr⟩⟩
end Go.Proofs.YteejphiklpnjhaaGreatDoor
namespace Go.Proofs.YteejphiklpnjhaaGreatDoor
set_option maxRecDepth 100000
set_option maxHeartbeats 16000000
open Go.RowKit
open Go.Lib (hid)
theorem element_any (G R : Nat) (s : ByteArray) (hs6 : s.size ≤ 65536) (hGR : G ≤ R) : ∀ d deep, d + deep = 16 → ElemC G R s d deep
 | 0, deep, h => by
   obtain rfl : deep = 16 := by omega
   exact elem_end R s G
 | d + 1, deep, h => elem_step hs6 hGR (element_any G R s hs6 hGR d (deep + 1) (by omega)) (by omega)
theorem catch_tmps (H : Nat) : (#[.pointer (some ⟨H, 0, none⟩), .pointer (some ⟨H + 1, 0, none⟩), .pointer (some ⟨H + 2, 0, none⟩), .pointer (some ⟨H + 3, 0, none⟩)] : Array Value) ++ Array.replicate (Tryz.f22.ntmps - (#[.pointer (some ⟨H, 0, none⟩), .pointer (some ⟨H + 1, 0, none⟩), .pointer (some ⟨H + 2, 0, none⟩), .pointer (some ⟨H + 3, 0, none⟩)] : Array Value).size) undef = #[.pointer (some ⟨H, 0, none⟩), .pointer (some ⟨H + 1, 0, none⟩), .pointer (some ⟨H + 2, 0, none⟩), .pointer (some ⟨H + 3, 0, none⟩), undef, undef, undef, undef, undef, undef, undef, undef, undef, undef, undef, undef, undef, undef, undef, undef] := by kernel_rfl
theorem catch_idle (H : Nat) (W : World) :
  CallsD Tryz.prog 22 #[.pointer (some ⟨H, 0, none⟩), .pointer (some ⟨H + 1, 0, none⟩), .pointer (some ⟨H + 2, 0, none⟩), .pointer (some ⟨H + 3, 0, none⟩)] .returning W fun e u' w' => e = .returned (.tuple #[]) ∧ u' = .returning ∧ w' = W := by
 refine callsD_of_wpS Tryz.func22 rfl fun c₀ cs hu => ?_
 rw [catch_tmps]
 apply wpS_seq
 generalize hK : Exit.thenS _ _ = K
 apply wpS_region
 simp [wpOpsS, go_sem, recoverD, hu]
 rw [← hK]
 simp only [Exit.thenS]
 refine wpS_of_wp ?_
 clear hK K
 go_wp2_with fail
 refine ⟨rfl, .returning, ?_, .tuple #[], by simp [results, Tryz.results22], rfl, rfl, rfl⟩
 cases c₀
 simp only at hu
 subst hu
 rfl
theorem assert_fail (v : Value) (w : World) : (Instr.typeAssert (.iface 61 v) 20 61 true).run Tryz.prog w = .ok (.tuple #[v, .bool true]) w := by
 simp [Instr.typeAssert, run_underlying Tryz.underlying61, go_sem, Result.andThen]
theorem catch_fail (H a : Nat) (er : Int) (s : ByteArray) (x0 x1 x2 x3 x4 x5 x6 p0 p1 e0 : Value) (W : World) (hb : W.heap[H]? = some (.cells #[.string s] 9 (0, 0))) (hn : W.heap[H + 1]? = some (.cells #[x0, x1, x2, x3, x4, x5, x6] 44 (0, 0))) (hp : W.heap[H + 2]? = some (.cells #[p0, p1] 32 (0, 0))) (he : W.heap[H + 3]? = some (.cells #[e0] 23 (0, 0))) (ha : a ≤ s.size) (hs : s.size ≤ 1000000000000) :
  CallsD Tryz.prog 22 #[.pointer (some ⟨H, 0, none⟩), .pointer (some ⟨H + 1, 0, none⟩), .pointer (some ⟨H + 2, 0, none⟩), .pointer (some ⟨H + 3, 0, none⟩)] (.panicking (chain er (a : Int))) W fun e u' w' => e = .returned (.tuple #[]) ∧ u' = .panicking [{ v := .iface 61 (.agg #[.int .i64 er, .int .i64 a]), recovered := true }] ∧
   w'.heap[H + 1]? = some (nodeRow ⟨#[]⟩ ⟨#[]⟩ (.slice none 0 0) (.slice none 0 0) ⟨#[]⟩ 0 0) ∧ w'.heap[H + 2]? = some (.cells #[.int .i64 (X.lineOf s.data.toList a), .int .i64 (X.colOf s.data.toList a)] 32 (0, 0)) ∧ w'.heap[H + 3]? = some (.cells #[.int .i64 er] 23 (0, 0)) ∧ Below H W w' := by
 refine callsD_of_wpS Tryz.func22 rfl fun c₀ cs hu => ?_
 rw [catch_tmps]
 apply wpS_seq
 generalize hK : Exit.thenS _ _ = K
 apply wpS_region
 unfold chain at hu
 simp [wpOpsS, go_sem, recoverD, hu]
 rw [← hK]
 simp only [Exit.thenS]
 refine wpS_of_wp ?_
 clear hK K
 have hTA := assert_fail (.agg #[.int .i64 er, .int .i64 a])
 obtain ⟨F, hF⟩ : ∃ F, W.heap.size = F := ⟨_, rfl⟩
 obtain ⟨w1, hw1⟩ : ∃ w1, W.alloc (.cells #[.int .i64 er, .int .i64 a] 61) = w1 := ⟨_, rfl⟩
 have HF1 : Hid (w1.heap[F]? = some (.cells #[.int .i64 er, .int .i64 a] 61 (0, 0))) := by show _ = _; rw [← hw1, ← hF]; exact heap_alloc_new W _
 have hb1 : Below W.heap.size W w1 := by rw [← hw1]; exact (Below.refl _ W).alloc (Nat.le_refl _) _
 have HS1 : Hid (w1.heap[H]? = some (.cells #[.string s] 9 (0, 0))) := (hb1.block H (Go.lt_of_block hb)).trans hb
 have HN1 : Hid (w1.heap[H + 1]? = some (.cells #[x0, x1, x2, x3, x4, x5, x6] 44 (0, 0))) := (hb1.block (H + 1) (Go.lt_of_block hn)).trans hn
 have HP1 : Hid (w1.heap[H + 2]? = some (.cells #[p0, p1] 32 (0, 0))) := (hb1.block (H + 2) (Go.lt_of_block hp)).trans hp
 have HE1 : Hid (w1.heap[H + 3]? = some (.cells #[e0] 23 (0, 0))) := (hb1.block (H + 3) (Go.lt_of_block he)).trans he
 have HHF : Hid (H + 3 < F) := by have := Go.lt_of_block he; show _ < _; omega
 have HB1 : Hid (Below H W w1) := hb1.mono (by have := Go.lt_of_block he; omega)
 have HW1 := hid hw1
 have HFE := hid hF
 have HA := hid ha
 clear hw1 hF hb1 hb hn hp he ha
 go_upto_region 7 with fail
 rw [HW1.out, HFE.out]
 clear HW1 HFE
 refine wp_region_till (S := (fun w : World => w.heap[H]? = some (.cells #[.string s] 9 (0, 0)) ∧ w.heap[F]? = some (.cells #[.int .i64 er, .int .i64 a] 61 (0, 0)))) 9 (by kernel_rfl) ?_
 have HS := hid (show ((fun w : World => w.heap[H]? = some (.cells #[.string s] 9 (0, 0)) ∧ w.heap[F]? = some (.cells #[.int .i64 er, .int .i64 a] 61 (0, 0)))) _ from ⟨HS1.out, HF1.out⟩)
 refine wpTill_any 0 (oi := ?oi1) (v := ?v1) ?ho1 (by kernel_rfl) (by kernel_rfl) (by kernel_rfl) (by kernel_rfl) ?hq1 (Or.inl ⟨?hw1, ?hy1⟩) (fun _ => HS.out) ?rest1
 case ho1 => rfl
 case hw1 => rfl
 case hy1 => intro w; go_simp; try with_reducible rfl
 case hq1 => exact fun _ _ _ h => h
 refine wpTill_any 2 (oi := ?oi2) (v := ?v2) ?ho2 (by kernel_rfl) (by kernel_rfl) (by kernel_rfl) (by kernel_rfl) ?hq2 (Or.inl ⟨?hw2, ?hy2⟩) (fun _ => HS.out) ?rest2
 case ho2 => rfl
 case hw2 => rfl
 case hy2 => intro w; go_simp; try with_reducible rfl
 case hq2 => exact fun _ _ _ h => h
 refine wpTill_any 5 (oi := ?oi3) (v := ?v3) ?ho3 (by kernel_rfl) (by kernel_rfl) (by kernel_rfl) (by kernel_rfl) ?hq3 (Or.inl ⟨?hw3, ?hy3⟩) (fun _ => HS.out) ?rest3
 case ho3 => rfl
 case hw3 => rfl
 case hy3 => intro w; go_simp; try with_reducible rfl
 case hq3 => exact fun _ _ _ h => h
 refine wpTill_load 1 [1, 9] (oi := ?oi4) (v := ?v4) ?ho4 (by kernel_rfl) (by kernel_rfl) (by kernel_rfl) (by kernel_rfl) ?hq4 (Or.inl ⟨?hw4, ?hy4⟩) HS.out ?rest4
 case ho4 => rfl
 case hw4 => rfl
 case hy4 =>
  intro w hSw
  have hSx := hSw
  obtain ⟨s0, s1⟩ := hSx
  have b0 : w.cell? ⟨H, 0, none⟩ = some (.string s) := rowCell s0 0
  have b1 : w.cell? ⟨F, 0, none⟩ = some (.int .i64 er) := rowCell s1 0
  have b2 : w.cell? ⟨F, 1, none⟩ = some (.int .i64 a) := rowCell s1 1
  clear s0 s1
  clear hSw
  go_simp
  try with_reducible rfl
 case hq4 => exact fun _ _ _ h => h
 refine wpTill_load 3 [3, 9] (oi := ?oi5) (v := ?v5) ?ho5 (by kernel_rfl) (by kernel_rfl) (by kernel_rfl) (by kernel_rfl) ?hq5 (Or.inl ⟨?hw5, ?hy5⟩) HS.out ?rest5
 case ho5 => rfl
 case hw5 => rfl
 case hy5 =>
  intro w hSw
  have hSx := hSw
  obtain ⟨s0, s1⟩ := hSx
  have b0 : w.cell? ⟨H, 0, none⟩ = some (.string s) := rowCell s0 0
  have b1 : w.cell? ⟨F, 0, none⟩ = some (.int .i64 er) := rowCell s1 0
  have b2 : w.cell? ⟨F, 1, none⟩ = some (.int .i64 a) := rowCell s1 1
  clear s0 s1
  clear hSw
  go_simp
  try with_reducible rfl
 case hq5 => exact fun _ _ _ h => h
 refine wpTill_load 6 [6, 9] (oi := ?oi6) (v := ?v6) ?ho6 (by kernel_rfl) (by kernel_rfl) (by kernel_rfl) (by kernel_rfl) ?hq6 (Or.inl ⟨?hw6, ?hy6⟩) HS.out ?rest6
 case ho6 => rfl
 case hw6 => rfl
 case hy6 =>
  intro w hSw
  have hSx := hSw
  obtain ⟨s0, s1⟩ := hSx
  have b0 : w.cell? ⟨H, 0, none⟩ = some (.string s) := rowCell s0 0
  have b1 : w.cell? ⟨F, 0, none⟩ = some (.int .i64 er) := rowCell s1 0
  have b2 : w.cell? ⟨F, 1, none⟩ = some (.int .i64 a) := rowCell s1 1
  clear s0 s1
  clear hSw
  go_simp
  try with_reducible rfl
 case hq6 => exact fun _ _ _ h => h
 refine wpTill_ready (rs := [4]) (by kernel_rfl) (by decide) ?_
 refine AllTill.consH (o := ?oi7) ?ho7 (fun K hK => ?step7) ?more7
 case ho7 => rfl
 case step7 =>
  go_simp
  refine (place_any s a HA.out hs _).mono ?_
  rintro e w2 ⟨rfl, hb2⟩
  unfold posV
  have HS2 : Hid (w2.heap[H]? = some (.cells #[.string s] 9 (0, 0)) ∧ w2.heap[F]? = some (.cells #[.int .i64 er, .int .i64 a] 61 (0, 0))) := ⟨(hb2.block H (Go.lt_of_block HS1.out)).trans HS1.out, (hb2.block F (Go.lt_of_block HF1.out)).trans HF1.out⟩
  have HN2 : Hid (w2.heap[H + 1]? = some (.cells #[x0, x1, x2, x3, x4, x5, x6] 44 (0, 0))) := (hb2.block (H + 1) (Go.lt_of_block HN1.out)).trans HN1.out
  have HP2 : Hid (w2.heap[H + 2]? = some (.cells #[p0, p1] 32 (0, 0))) := (hb2.block (H + 2) (Go.lt_of_block HP1.out)).trans HP1.out
  have HE2 : Hid (w2.heap[H + 3]? = some (.cells #[e0] 23 (0, 0))) := (hb2.block (H + 3) (Go.lt_of_block HE1.out)).trans HE1.out
  have HB2 : Hid (Below H W w2) := HB1.out.drew.trans (hb2.mono (by have := Go.lt_of_block HE1.out; show H ≤ w1.heap.size; omega))
  clear hb2 HN1 HP1 HE1 HF1 HS1 HB1
  try dsimp only
  refine hK.out _ _ (fun _ => HS2.out) (fun hHeld => ?_)
  have HS7 := hid (hHeld (by kernel_rfl))
  clear hHeld hK K
  refine wpTill_ready (rs := [7]) (by kernel_rfl) (by decide) ?_
  refine AllTill.consH (o := ?oi8) ?ho8 (fun K hK => ?step8) ?more8
  case ho8 => rfl
  case step8 =>
   obtain ⟨y0, y1, y2, y3, y4, y5, y6⟩ := row7 HN2.out
   have f0 := rowFree HN2.out 0
   have f1 := rowFree HN2.out 1
   have f2 := rowFree HN2.out 2
   have f3 := rowFree HN2.out 3
   have f4 := rowFree HN2.out 4
   have f5 := rowFree HN2.out 5
   have f6 := rowFree HN2.out 6
   go_simp
   obtain ⟨w3, hw3⟩ : ∃ w3, (((((((w2.setCell ⟨H + 1, 0, none⟩ (.string ⟨#[]⟩)).setCell ⟨H + 1, 1, none⟩ (.string ⟨#[]⟩)).setCell ⟨H + 1, 2, none⟩ (.slice none 0 0)).setCell ⟨H + 1, 3, none⟩ (.slice none 0 0)).setCell ⟨H + 1, 4, none⟩ (.string ⟨#[]⟩)).setCell ⟨H + 1, 5, none⟩ (.int .i64 0)).setCell ⟨H + 1, 6, none⟩ (.int .i64 0)) = w3 := ⟨_, rfl⟩
   have g3 : w2.grownBy w3 (some (H + 1)) := by rw [← hw3]; exact st7_grown w2 (H + 1) (.string ⟨#[]⟩) (.string ⟨#[]⟩) (.slice none 0 0) (.slice none 0 0) (.string ⟨#[]⟩) (.int .i64 0) (.int .i64 0)
   have hn3 : w3.heap[H + 1]? = some (nodeRow ⟨#[]⟩ ⟨#[]⟩ (.slice none 0 0) (.slice none 0 0) ⟨#[]⟩ 0 0) := by rw [← hw3]; exact st7_row HN2.out (.string ⟨#[]⟩) (.string ⟨#[]⟩) (.slice none 0 0) (.slice none 0 0) (.string ⟨#[]⟩) (.int .i64 0) (.int .i64 0)
   rw [hw3]
   have HS3 : Hid (w3.heap[H]? = some (.cells #[.string s] 9 (0, 0)) ∧ w3.heap[F]? = some (.cells #[.int .i64 er, .int .i64 a] 61 (0, 0))) := ⟨(g3.block H (Go.lt_of_block HS2.out.1) (fun e => by have := Option.some.inj e; omega)).trans HS2.out.1, (g3.block F (Go.lt_of_block HS2.out.2) (fun e => by have := Option.some.inj e; have := HHF.out; omega)).trans HS2.out.2⟩
   have HN3 : Hid (w3.heap[H + 1]? = some (nodeRow ⟨#[]⟩ ⟨#[]⟩ (.slice none 0 0) (.slice none 0 0) ⟨#[]⟩ 0 0)) := hn3
   have HP3 : Hid (w3.heap[H + 2]? = some (.cells #[p0, p1] 32 (0, 0))) := (g3.block (H + 2) (Go.lt_of_block HP2.out) (fun e => by have := Option.some.inj e; omega)).trans HP2.out
   have HE3 : Hid (w3.heap[H + 3]? = some (.cells #[e0] 23 (0, 0))) := (g3.block (H + 3) (Go.lt_of_block HE2.out) (fun e => by have := Option.some.inj e; omega)).trans HE2.out
   have HB3 : Hid (Below H W w3) := HB2.out.grown g3 (by have := HB2.out.size; have := Go.lt_of_block HS2.out.1; omega) (fun k hk => by have := Option.some.inj hk; omega)
   clear hw3 g3 hn3 HN2 HP2 HE2 HS2 HB2 y0 y1 y2 y3 y4 y5 y6 f0 f1 f2 f3 f4 f5 f6
   refine hK.out _ _ (fun _ => HS3.out) (fun hHeld => ?_)
   have HS8 := hid (hHeld (by kernel_rfl))
   clear hHeld hK K
   refine wpTill_ready (rs := [8]) (by kernel_rfl) (by decide) ?_
   refine AllTill.consH (o := ?oi9) ?ho9 (fun K hK => ?step9) ?more9
   case ho9 => rfl
   case step9 =>
    obtain ⟨y0, y1⟩ := row2 HP3.out
    have f0 := rowFree HP3.out 0
    have f1 := rowFree HP3.out 1
    go_simp
    have g4 : w3.grownBy ((w3.setCell ⟨H + 2, 0, none⟩ (.int .i64 (X.lineOf s.data.toList a))).setCell ⟨H + 2, 1, none⟩ (.int .i64 (X.colOf s.data.toList a))) (some (H + 2)) := (grownBy_set w3 (H + 2) 0 _).trans (grownBy_set _ (H + 2) 1 _)
    have hn4 : ((w3.setCell ⟨H + 2, 0, none⟩ (.int .i64 (X.lineOf s.data.toList a))).setCell ⟨H + 2, 1, none⟩ (.int .i64 (X.colOf s.data.toList a))).heap[H + 2]? = some (.cells #[.int .i64 (X.lineOf s.data.toList a), .int .i64 (X.colOf s.data.toList a)] 32 (0, 0)) := row_set (row_set HP3.out 0 _) 1 _
    obtain ⟨w4, hw4⟩ : ∃ w4, (w3.setCell ⟨H + 2, 0, none⟩ (.int .i64 (X.lineOf s.data.toList a))).setCell ⟨H + 2, 1, none⟩ (.int .i64 (X.colOf s.data.toList a)) = w4 := ⟨_, rfl⟩
    rw [hw4] at g4 hn4 ⊢
    have HS4 : Hid (w4.heap[H]? = some (.cells #[.string s] 9 (0, 0)) ∧ w4.heap[F]? = some (.cells #[.int .i64 er, .int .i64 a] 61 (0, 0))) := ⟨(g4.block H (Go.lt_of_block HS3.out.1) (fun e => by have := Option.some.inj e; omega)).trans HS3.out.1, (g4.block F (Go.lt_of_block HS3.out.2) (fun e => by have := Option.some.inj e; have := HHF.out; omega)).trans HS3.out.2⟩
    have HN4 : Hid (w4.heap[H + 1]? = some (nodeRow ⟨#[]⟩ ⟨#[]⟩ (.slice none 0 0) (.slice none 0 0) ⟨#[]⟩ 0 0)) := (g4.block (H + 1) (Go.lt_of_block HN3.out) (fun e => by have := Option.some.inj e; omega)).trans HN3.out
    have HP4 := hid hn4
    have HE4 : Hid (w4.heap[H + 3]? = some (.cells #[e0] 23 (0, 0))) := (g4.block (H + 3) (Go.lt_of_block HE3.out) (fun e => by have := Option.some.inj e; omega)).trans HE3.out
    have HB4 : Hid (Below H W w4) := HB3.out.grown g4 (by have := HB3.out.size; have := Go.lt_of_block HS3.out.1; omega) (fun k hk => by have := Option.some.inj hk; omega)
    clear hw4 g4 hn4 HN3 HP3 HE3 HS3 HB3 y0 y1 f0 f1
    refine hK.out _ _ (fun _ => HS4.out) (fun hHeld => ?_)
    have HS9 := hid (hHeld (by kernel_rfl))
    clear hHeld hK K
    refine wpTill_ready (rs := [9]) (by kernel_rfl) (by decide) ?_
    refine AllTill.consH (o := ?oi10) ?ho10 (fun K hK => ?step10) ?more10
    case ho10 => rfl
    case step10 =>
     have y0 := rowCell HE4.out 0
     have f0 := rowFree HE4.out 0
     go_simp
     refine hK.out _ _ (fun hk => by cases (show true = false from hk)) (fun _ => ?_)
     clear hK K
     refine wpTill_done (by kernel_rfl) ?_ _
     have g5 := grownBy_set w4 (H + 3) 0 (.int .i64 er)
     have hE5 : (w4.setCell ⟨H + 3, 0, none⟩ (.int .i64 er)).heap[H + 3]? = some (.cells #[.int .i64 er] 23 (0, 0)) := row_set HE4.out 0 _
     go_wp2_with fail
     refine ⟨rfl, .panicking [{ v := .iface 61 (.agg #[.int .i64 er, .int .i64 a]), recovered := true }], ?_, .tuple #[], by simp [results, Tryz.results22], rfl, rfl, (g5.block (H + 1) (Go.lt_of_block HN4.out) (fun e => by have := Option.some.inj e; omega)).trans HN4.out, (g5.block (H + 2) (Go.lt_of_block HP4.out) (fun e => by have := Option.some.inj e; omega)).trans HP4.out, hE5, HB4.out.grown g5 (by have := HB4.out.size; have := Go.lt_of_block HS4.out.1; omega) (fun k hk => by have := Option.some.inj hk; omega)⟩
     rfl
    case more10 =>
     exact AllTill.nil
   case more9 =>
    exact AllTill.nil
  case more8 =>
   exact AllTill.nil
 case more7 =>
  exact AllTill.nil
end Go.Proofs.YteejphiklpnjhaaGreatDoor
namespace Go.Proofs.YteejphiklpnjhaaGreatDoor
set_option maxRecDepth 100000
set_option maxHeartbeats 16000000
open Go.RowKit Go.Maps
open Go.Lib (hid)
def zero7 : Array Value := #[.string ⟨#[]⟩, .string ⟨#[]⟩, .slice none 0 0, .slice none 0 0, .string ⟨#[]⟩, .int .i64 0, .int .i64 0]
def ParseOf (W0 : World) (s : ByteArray) (x : Except (Nat × Int) X.E) (en : Ending) (W : World) : Prop :=
 (∃ e cs, x = .ok e ∧ en = .returned (.tuple #[.agg cs.toArray, .agg #[.int .i64 0, .int .i64 0], .int .i64 0]) ∧ e.Has W (OwnN W W0.heap.size none) cs ∧ Below W0.heap.size W0 W) ∨
 (∃ n er, x = .error (n, er) ∧ en = .returned (.tuple #[.agg zero7, posV s (s.size - n), .int .i64 er]) ∧ Below W0.heap.size W0 W)
structure PB (W : World) (H : Nat) (s : ByteArray) (w : World) : Prop where
 h : W.heap.size = H
 b : Below H W w
 s : w.heap[H]? = some (.cells #[.string s] 9 (0, 0))
 n : ∃ x0 x1 x2 x3 x4 x5 x6, w.heap[H + 1]? = some (.cells #[x0, x1, x2, x3, x4, x5, x6] 44 (0, 0))
 p : ∃ p0 p1, w.heap[H + 2]? = some (.cells #[p0, p1] 32 (0, 0))
 e : ∃ e0, w.heap[H + 3]? = some (.cells #[e0] 23 (0, 0))
section
variable {W w w' : World} {H : Nat} {s : ByteArray}
theorem PB.lt (h : PB W H s w) : H + 3 < w.heap.size := by obtain ⟨e0, he⟩ := h.e; exact Go.lt_of_block he
theorem PB.grown (h : PB W H s w) {Y : Nat} (g : w.grownBy w' (some Y)) (hY : H + 4 ≤ Y) : PB W H s w' := by
 obtain ⟨x0, x1, x2, x3, x4, x5, x6, hn⟩ := h.n
 obtain ⟨p0, p1, hp⟩ := h.p
 obtain ⟨e0, he⟩ := h.e
 have hlt := h.lt
 exact ⟨h.h, h.b.grown g (by omega) (fun k hk => by have := Option.some.inj hk; omega), (g.block H (by omega) (fun e => by have := Option.some.inj e; omega)).trans h.s, ⟨_, _, _, _, _, _, _, (g.block (H + 1) (by omega) (fun e => by have := Option.some.inj e; omega)).trans hn⟩, ⟨_, _, (g.block (H + 2) (by omega) (fun e => by have := Option.some.inj e; omega)).trans hp⟩, ⟨_, (g.block (H + 3) (by omega) (fun e => by have := Option.some.inj e; omega)).trans he⟩⟩
theorem PB.below (h : PB W H s w) (hb : Below w.heap.size w w') : PB W H s w' := by
 obtain ⟨x0, x1, x2, x3, x4, x5, x6, hn⟩ := h.n
 obtain ⟨p0, p1, hp⟩ := h.p
 obtain ⟨e0, he⟩ := h.e
 have hlt := h.lt
 exact ⟨h.h, h.b.trans (hb.mono (by omega)), (hb.block H (by omega)).trans h.s, ⟨_, _, _, _, _, _, _, (hb.block (H + 1) (by omega)).trans hn⟩, ⟨_, _, (hb.block (H + 2) (by omega)).trans hp⟩, ⟨_, (hb.block (H + 3) (by omega)).trans he⟩⟩
end
theorem run_loadErrno (w : World) (g : Nat) (v : Value) (h : w.heap[g]? = some (.cells #[v] 23 (0, 0))) : (loadVar 23 ⟨g, 0, none⟩).run Tryz.prog w = .ok v w := by
 have c := rowCell h 0
 simp only [List.getElem?_toArray, List.getElem?_cons_zero] at c
 simp [loadVar, isAgg, run_underlying Tryz.underlying23, go_sem, Result.andThen, c]
theorem results_parse (tmps : Array Value) (w : World) (H : Nat) (c7 c2 : Array Value) (e0 : Value) (h2 : tmps.getD 2 undef = .pointer (some ⟨H + 1, 0, none⟩)) (h3 : tmps.getD 3 undef = .pointer (some ⟨H + 2, 0, none⟩)) (h4 : tmps.getD 4 undef = .pointer (some ⟨H + 3, 0, none⟩))
  (hn : w.heap[H + 1]? = some (.cells c7 44 (0, 0))) (s7 : c7.size = 7) (hp : w.heap[H + 2]? = some (.cells c2 32 (0, 0))) (s2 : c2.size = 2) (he : w.heap[H + 3]? = some (.cells #[e0] 23 (0, 0))) :
  (results Tryz.f14 tmps).run Tryz.prog w = .ok (.tuple #[.agg c7, .agg c2, e0]) w := by
 have l1 := run_loadVar_row (P := Tryz.prog) w (H + 1) 44 44 c7 (0, 0) _ hn Tryz.underlying44 rfl (by rw [s7]; exact sizeNode)
 have l2 := run_loadVar_row (P := Tryz.prog) w (H + 2) 32 32 c2 (0, 0) _ hp Tryz.underlying32 rfl (by rw [s2]; exact infoPos)
 have l3 := run_loadErrno w (H + 3) e0 he
 have h2' : tmps[2]?.getD undef = .pointer (some ⟨H + 1, 0, none⟩) := by simpa using h2
 have h3' : tmps[3]?.getD undef = .pointer (some ⟨H + 2, 0, none⟩) := by simpa using h3
 have h4' : tmps[4]?.getD undef = .pointer (some ⟨H + 3, 0, none⟩) := by simpa using h4
 simp [results, Tryz.results14, h2', h3', h4', asAddr, l1, l2, l3, Result.andThen]
def deferredP (H : Nat) : Deferred := { target := .fn (.func 22) #[.pointer (some ⟨H, 0, none⟩), .pointer (some ⟨H + 1, 0, none⟩), .pointer (some ⟨H + 2, 0, none⟩), .pointer (some ⟨H + 3, 0, none⟩)], args := #[] }
theorem leave_fail {W w : World} {H n : Nat} {er : Int} {s : ByteArray} {tmps : Array Value} {RES : Except (Nat × Int) X.E} (h2 : tmps.getD 2 undef = .pointer (some ⟨H + 1, 0, none⟩)) (h3 : tmps.getD 3 undef = .pointer (some ⟨H + 2, 0, none⟩)) (h4 : tmps.getD 4 undef = .pointer (some ⟨H + 3, 0, none⟩)) (hX : RES = .error (n, er)) (hs : s.size ≤ 1000000000000) (hP : PB W H s w) :
  Leaves Tryz.prog Tryz.f14 tmps (ParseOf W s RES) [deferredP H] (.panicking (chain er ((s.size - n : Nat) : Int))) w := by
 obtain ⟨x0, x1, x2, x3, x4, x5, x6, hn⟩ := hP.n
 obtain ⟨p0, p1, hp⟩ := hP.p
 obtain ⟨e0, he⟩ := hP.e
 refine leaves_cons (f := 22) (args := #[.pointer (some ⟨H, 0, none⟩), .pointer (some ⟨H + 1, 0, none⟩), .pointer (some ⟨H + 2, 0, none⟩), .pointer (some ⟨H + 3, 0, none⟩)]) (by simp) (by simp [go_sem]) ?_
 refine (catch_fail H (s.size - n) er s x0 x1 x2 x3 x4 x5 x6 p0 p1 e0 w hP.s hn hp he (by omega) hs).mono ?_
 rintro e u' w' ⟨rfl, rfl, g1, g2, g3, g4⟩
 refine ⟨_, results_parse tmps w' H _ _ _ h2 h3 h4 g1 rfl g2 rfl g3, Or.inr ⟨n, er, hX, rfl, ?_⟩⟩
 rw [hP.h]; exact hP.b.trans g4
theorem leave_ok {W w : World} {H : Nat} {s : ByteArray} {tmps : Array Value} {RES : Except (Nat × Int) X.E} (h2 : tmps.getD 2 undef = .pointer (some ⟨H + 1, 0, none⟩)) (h3 : tmps.getD 3 undef = .pointer (some ⟨H + 2, 0, none⟩)) (h4 : tmps.getD 4 undef = .pointer (some ⟨H + 3, 0, none⟩)) {e : X.E} {cs : List Value} (hX : RES = .ok e)
   (hn : w.heap[H + 1]? = some (.cells cs.toArray 44 (0, 0))) (s7 : cs.toArray.size = 7) (hp : w.heap[H + 2]? = some (.cells #[.int .i64 0, .int .i64 0] 32 (0, 0))) (he : w.heap[H + 3]? = some (.cells #[.int .i64 0] 23 (0, 0))) (hH : W.heap.size = H) (hh : e.Has w (OwnN w H none) cs) (hb : Below H W w) :
   Leaves Tryz.prog Tryz.f14 tmps (ParseOf W s RES) [deferredP H] .returning w := by
 refine leaves_cons (f := 22) (args := #[.pointer (some ⟨H, 0, none⟩), .pointer (some ⟨H + 1, 0, none⟩), .pointer (some ⟨H + 2, 0, none⟩), .pointer (some ⟨H + 3, 0, none⟩)]) (by simp) (by simp [go_sem]) ?_
 refine (catch_idle H w).mono ?_
 rintro e u' w' ⟨rfl, rfl, rfl⟩
 refine ⟨_, results_parse tmps w' H _ _ _ h2 h3 h4 hn s7 hp rfl he, Or.inl ⟨_, cs, hX, rfl, ?_, ?_⟩⟩
 · rw [hH]; exact hh
 · rw [hH]; exact hb
theorem PB.setN {W w w' : World} {H : Nat} {s : ByteArray} (h : PB W H s w) (g : w.grownBy w' (some (H + 1))) {x0 x1 x2 x3 x4 x5 x6 : Value} (hn : w'.heap[H + 1]? = some (.cells #[x0, x1, x2, x3, x4, x5, x6] 44 (0, 0))) : PB W H s w' := by
 obtain ⟨p0, p1, hp⟩ := h.p
 obtain ⟨e0, he⟩ := h.e
 have hlt := h.lt
 exact ⟨h.h, h.b.grown g (by omega) (fun k hk => by have := Option.some.inj hk; omega), (g.block H (by omega) (fun e => by have := Option.some.inj e; omega)).trans h.s, ⟨_, _, _, _, _, _, _, hn⟩, ⟨_, _, (g.block (H + 2) (by omega) (fun e => by have := Option.some.inj e; omega)).trans hp⟩, ⟨_, (g.block (H + 3) (by omega) (fun e => by have := Option.some.inj e; omega)).trans he⟩⟩
theorem start_at (s : ByteArray) : ∃ p0 : Nat, p0 ≤ s.size ∧ X.start s.data.toList = rest s p0 ∧ ((X.head1.isPrefixOf (rest s 0) = true ∧ p0 = 21) ∨ (X.head1.isPrefixOf (rest s 0) = false ∧ X.head2.isPrefixOf (rest s 0) = true ∧ p0 = 38) ∨ (X.head1.isPrefixOf (rest s 0) = false ∧ X.head2.isPrefixOf (rest s 0) = false ∧ p0 = 0)) := by
 have hr : rest s 0 = s.data.toList := rfl
 unfold X.start
 rw [hr]
 cases h1 : X.head1.isPrefixOf s.data.toList
 · cases h2 : X.head2.isPrefixOf s.data.toList
   · exact ⟨0, Nat.zero_le _, rfl, Or.inr (Or.inr ⟨rfl, rfl, rfl⟩)⟩
   · have := X.pre_len h2
     rw [← Lib.size_eq] at this
     exact ⟨38, this, rfl, Or.inr (Or.inl ⟨rfl, rfl, rfl⟩)⟩
 · have := X.pre_len h1
   rw [← Lib.size_eq] at this
   exact ⟨21, this, rfl, Or.inl ⟨rfl, rfl⟩⟩
theorem pb_first (s : ByteArray) (W : World) : PB W W.heap.size s ((((W.alloc (.cells #[.string s] 9)).alloc (.cells #[.string ⟨#[]⟩, .string ⟨#[]⟩, .slice none 0 0, .slice none 0 0, .string ⟨#[]⟩, .int .i64 0, .int .i64 0] 44)).alloc (.cells #[.int .i64 0, .int .i64 0] 32)).alloc (.cells #[.int .i64 0] 23)) := by
 obtain ⟨wa, ha⟩ : ∃ wa, W.alloc (.cells #[.string s] 9) = wa := ⟨_, rfl⟩
 have sa : wa.heap.size = W.heap.size + 1 := by rw [← ha]; simp
 have na : wa.heap[W.heap.size]? = some (.cells #[.string s] 9 (0, 0)) := by rw [← ha]; exact heap_alloc_new W _
 have ba : Below W.heap.size W wa := by rw [← ha]; exact (Below.refl _ W).alloc (Nat.le_refl _) _
 rw [ha]
 obtain ⟨wb, hb⟩ : ∃ wb, wa.alloc (.cells #[.string ⟨#[]⟩, .string ⟨#[]⟩, .slice none 0 0, .slice none 0 0, .string ⟨#[]⟩, .int .i64 0, .int .i64 0] 44) = wb := ⟨_, rfl⟩
 have sb : wb.heap.size = W.heap.size + 2 := by rw [← hb]; simp [sa]
 have nb : wb.heap[W.heap.size + 1]? = some (.cells #[.string ⟨#[]⟩, .string ⟨#[]⟩, .slice none 0 0, .slice none 0 0, .string ⟨#[]⟩, .int .i64 0, .int .i64 0] 44 (0, 0)) := by rw [← hb, ← sa]; exact heap_alloc_new wa _
 have bb : Below wa.heap.size wa wb := by rw [← hb]; exact (Below.refl _ wa).alloc (Nat.le_refl _) _
 rw [hb]
 obtain ⟨wc, hc⟩ : ∃ wc, wb.alloc (.cells #[.int .i64 0, .int .i64 0] 32) = wc := ⟨_, rfl⟩
 have sc : wc.heap.size = W.heap.size + 3 := by rw [← hc]; simp [sb]
 have nc : wc.heap[W.heap.size + 2]? = some (.cells #[.int .i64 0, .int .i64 0] 32 (0, 0)) := by rw [← hc, ← sb]; exact heap_alloc_new wb _
 have bc : Below wb.heap.size wb wc := by rw [← hc]; exact (Below.refl _ wb).alloc (Nat.le_refl _) _
 rw [hc]
 obtain ⟨wd, hd⟩ : ∃ wd, wc.alloc (.cells #[.int .i64 0] 23) = wd := ⟨_, rfl⟩
 have nd : wd.heap[W.heap.size + 3]? = some (.cells #[.int .i64 0] 23 (0, 0)) := by rw [← hd, ← sc]; exact heap_alloc_new wc _
 have bd : Below wc.heap.size wc wd := by rw [← hd]; exact (Below.refl _ wc).alloc (Nat.le_refl _) _
 rw [hd]
 exact ⟨rfl, ((ba.trans (bb.mono (by omega))).trans (bc.mono (by omega))).trans (bd.mono (by omega)), (bd.block _ (by omega)).trans ((bc.block _ (by omega)).trans ((bb.block _ (by omega)).trans na)), ⟨_, _, _, _, _, _, _, (bd.block _ (by omega)).trans ((bc.block _ (by omega)).trans nb)⟩, ⟨_, _, (bd.block _ (by omega)).trans nc⟩, ⟨_, nd⟩⟩
theorem parse_any (s : ByteArray) (hs6 : s.size ≤ 65536) (W : World) (hE : Errs W) (hT : Tabs W) :
   Calls Tryz.prog 14 #[.string s] W (ParseOf W s (X.parse s.data.toList)) := by
 have hs : s.size ≤ 1000000000000 := by omega
 obtain ⟨RES, hRES⟩ : ∃ x, X.parse s.data.toList = x := ⟨_, rfl⟩
 rw [hRES]
 obtain ⟨H, hH⟩ : ∃ H, W.heap.size = H := ⟨_, rfl⟩
 obtain ⟨w1, hw1⟩ : ∃ w1, (((W.alloc (.cells #[.string s] 9)).alloc (.cells #[.string ⟨#[]⟩, .string ⟨#[]⟩, .slice none 0 0, .slice none 0 0, .string ⟨#[]⟩, .int .i64 0, .int .i64 0] 44)).alloc (.cells #[.int .i64 0, .int .i64 0] 32)).alloc (.cells #[.int .i64 0] 23) = w1 := ⟨_, rfl⟩
 have HP1 : Hid (PB W H s w1) := by show PB _ _ _ _; rw [← hw1, ← hH]; exact pb_first s W
 have HG0 := Ground.first hE hT
 rw [hH] at HG0
 have HG := hid HG0
 obtain ⟨R, hR⟩ : ∃ R, w1.heap.size = R := ⟨_, rfl⟩
 have HR4 : Hid (H + 4 ≤ R) := by have := HP1.out.lt; show _ ≤ _; omega
 have HRH : Hid (H ≤ R) := by have := HR4.out; show _ ≤ _; omega
 obtain ⟨w2, hw2⟩ : ∃ w2, w1.alloc (.cells #[.string s, .int .i64 0, .int .i64 0] 67) = w2 := ⟨_, rfl⟩
 have hr2 : w2.heap[R]? = some (mRow s 0 0) := by rw [← hw2, ← hR]; exact heap_alloc_new w1 _
 have HR2 : Hid (Rd w2 R s 0 0 w2) := ⟨⟨rfl, rfl, rfl, Nat.le_refl _, fun _ _ _ => rfl⟩, hr2, Go.lt_of_block hr2⟩
 have HP2 : Hid (PB W H s w2) := by show PB _ _ _ _; rw [← hw2]; exact HP1.out.below ((Below.refl _ w1).alloc (Nat.le_refl _) _)
 have HW1 := hid hw1
 have HW2 := hid hw2
 have HH := hid hH
 have HRE := hid hR
 have b0 : w1.cell? ⟨H, 0, none⟩ = some (.string s) := rowCell HP1.out.s 0
 have t0 : decide ((65536 : Int) < (s.size : Int)) = false := decide_eq_false (by omega)
 have t1 : decide (65536 < s.size) = false := decide_eq_false (by omega)
 obtain ⟨p0, hp0, hst, hcase⟩ := start_at s
 have cT := take_l (k := 21) X.head1 ⟨#[60, 63, 120, 109, 108, 32, 118, 101, 114, 115, 105, 111, 110, 61, 34, 49, 46, 48, 34, 63, 62]⟩ rfl rfl HR2.out (Nat.zero_le _) hs
 clear hE hT hw1 hH HG0 hR hw2 hr2
 go_enter_defers Tryz.func14, Tryz.ntmps14
 go_upto_region 1 with fail
 rw [HW1.out, HH.out, show H + 1 + 1 + 1 = H + 3 from rfl, show H + 1 + 1 = H + 2 from rfl]
 go_upto_region 5 with fail
 rw [HW2.out, HRE.out]
 clear HW1 HW2 HH HRE b0 t0 t1
 go_wp2_with fail
 refine cT.mono ?_
 rintro e w3 (⟨g1, g2, rfl, g3⟩ | ⟨g1, rfl, g3⟩)
 · obtain rfl : p0 = 21 := by
     rcases hcase with ⟨_, h⟩ | ⟨h, _⟩ | ⟨h, _⟩
     · exact h
     · rw [g1] at h; cases h
     · rw [g1] at h; cases h
   have H3 : Hid (Rd w2 R s 21 0 w3) := g3
   have HP3 : Hid (PB W H s w3) := HP2.out.grown g3.g HR4.out
   clear g1 g2 g3 cT hcase HR2 HP2
   have HE0 : Hid (RES = match X.misc (s.size + 1) (rest s 21) with
       | .error e => .error e
       | .ok (_, l) =>
         if (![60].isPrefixOf l || [60, 33].isPrefixOf l || [60, 63].isPrefixOf l) = true then .error (X.bad l)
         else match X.elem s.data.toList 16 X.known0 0 l with
           | .error e => .error e
           | .ok ((e, _), l2) => match X.misc (s.size + 1) l2 with
             | .error e => .error e
             | .ok (_, l3) => if l3 = [] then .ok e else .error (X.bad l3)) := by
     show _ = _
     rw [← hRES, X.parse, hst, ← Lib.size_eq]
     rfl
   have cM := misc_any (s.size + 1) (by omega) H3.out.own hp0 hs (HG.out.keep HP3.out.b) HRH.out
   have HFM := hid (X.misc_fair (s.size + 1) (rest s 21))
   clear hst
   go_wp2_with fail
   refine cM.mono ?_
   rintro e w4 (⟨_, r, hx, rfl, hr⟩ | ⟨n, e, hx, rfl, hr⟩)
   rotate_left
   · have HX : Hid (RES = .error (n, e)) := by show _ = _; rw [HE0.out, hx]
     exact leave_fail rfl rfl rfl HX.out hs (HP3.out.grown hr HR4.out)
   have hsuf := (HFM.out.1 _ _ hx).1
   have hpos := rest_pos hsuf hp0
   have hre := rest_suf hsuf
   obtain ⟨u, hu⟩ : ∃ u, s.size - r.length = u := ⟨_, rfl⟩
   rw [hu] at hr hpos hre
   have hus := hpos.2
   have HE1 : Hid (RES = if (![60].isPrefixOf (rest s u) || [60, 33].isPrefixOf (rest s u) || [60, 63].isPrefixOf (rest s u)) = true then .error (X.bad (rest s u))
         else match X.elem s.data.toList 16 X.known0 0 (rest s u) with
           | .error e => .error e
           | .ok ((e, _), l2) => match X.misc (s.size + 1) l2 with
             | .error e => .error e
             | .ok (_, l3) => if l3 = [] then .ok e else .error (X.bad l3)) := by
     show _ = _
     rw [HE0.out, hx, ← hre]
   have H4 := hid (H3.out.trans hr)
   have HP4 : Hid (PB W H s w4) := HP3.out.grown hr.g HR4.out
   have cN := next_l [60] ⟨#[60]⟩ rfl H4.out.own hus
   clear hx hr hsuf hpos hre hu cM HFM HE0 H3 HP3 hp0
   cases b1 : [60].isPrefixOf (rest s u)
   · have HX : Hid (RES = .error (X.bad (rest s u))) := by show _ = _; rw [HE1.out, b1]; rfl
     rw [b1] at cN
     clear b1 HE1
     go_wp2_with fail
     refine cN.mono ?_
     rintro e w5 ⟨rfl, g3⟩
     have H5 := hid (H4.out.below g3)
     have HP5 := hid (HP4.out.below g3)
     have cB := bad_any H5.out.own hus
     clear g3 cN
     go_wp2_with fail
     refine cB.mono ?_
     rintro e w6 ⟨rfl, hbl⟩
     exact leave_fail rfl rfl rfl HX.out hs (HP5.out.below hbl)
   rw [b1] at cN HE1
   clear b1
   go_wp2_with fail
   refine cN.mono ?_
   rintro e w5 ⟨rfl, g3⟩
   have H5 := hid (H4.out.below g3)
   have HP5 := hid (HP4.out.below g3)
   clear g3 cN H4 HP4
   have cN := next_l [60, 33] ⟨#[60, 33]⟩ rfl H5.out.own hus
   cases b2 : [60, 33].isPrefixOf (rest s u)
   rotate_left
   · have HX : Hid (RES = .error (X.bad (rest s u))) := by show _ = _; rw [HE1.out, b2]; rfl
     rw [b2] at cN
     clear b2 HE1
     go_wp2_with fail
     refine cN.mono ?_
     rintro e w6 ⟨rfl, g3⟩
     have H6 := hid (H5.out.below g3)
     have HP6 := hid (HP5.out.below g3)
     have cB := bad_any H6.out.own hus
     clear g3 cN
     go_wp2_with fail
     refine cB.mono ?_
     rintro e w7 ⟨rfl, hbl⟩
     exact leave_fail rfl rfl rfl HX.out hs (HP6.out.below hbl)
   rw [b2] at cN HE1
   clear b2
   go_wp2_with fail
   refine cN.mono ?_
   rintro e w6 ⟨rfl, g3⟩
   have H6 := hid (H5.out.below g3)
   have HP6 := hid (HP5.out.below g3)
   clear g3 cN H5 HP5
   have cN := next_l [60, 63] ⟨#[60, 63]⟩ rfl H6.out.own hus
   cases b3 : [60, 63].isPrefixOf (rest s u)
   rotate_left
   · have HX : Hid (RES = .error (X.bad (rest s u))) := by show _ = _; rw [HE1.out, b3]; rfl
     rw [b3] at cN
     clear b3 HE1
     go_wp2_with fail
     refine cN.mono ?_
     rintro e w7 ⟨rfl, g3⟩
     have H7 := hid (H6.out.below g3)
     have HP7 := hid (HP6.out.below g3)
     have cB := bad_any H7.out.own hus
     clear g3 cN
     go_wp2_with fail
     refine cB.mono ?_
     rintro e w8 ⟨rfl, hbl⟩
     exact leave_fail rfl rfl rfl HX.out hs (HP7.out.below hbl)
   rw [b3] at cN HE1
   clear b3
   simp only [Bool.not_true, Bool.or_false, Bool.false_eq_true, if_false] at HE1
   go_wp2_with fail
   refine cN.mono ?_
   rintro e w7 ⟨rfl, g3⟩
   have H7 := hid (H6.out.below g3)
   have HP7 := hid (HP6.out.below g3)
   clear g3 cN H6 HP6
   have hmm := @run_makeMap Tryz.prog
   have m0 : KM (w7.alloc (.map #[] 0)) w7.heap.size 0 [] := World.ownsMap_made (H := Unit) w7 Tryz.prog 9 (plainElem Tryz.prog 9)
   obtain ⟨w8, u1, m1, t1⟩ := m0.put (by unfold maxLen; omega) ⟨#[]⟩ ⟨#[]⟩ (by decide) (by decide)
   obtain ⟨w9, u2, m2, t2⟩ := m1.put (by unfold maxLen; omega) ⟨#[120, 109, 108]⟩ ⟨#[104, 116, 116, 112, 58, 47, 47, 119, 119, 119, 46, 119, 51, 46, 111, 114, 103, 47, 88, 77, 76, 47, 49, 57, 57, 56, 47, 110, 97, 109, 101, 115, 112, 97, 99, 101]⟩ (by decide) (by decide)
   have HK9 : Hid (KM w9 w7.heap.size 2 X.known0) := m2
   have HB79 : Hid (Below w7.heap.size w7 w9) := by
     have b0 : Below w7.heap.size w7 (w7.alloc (.map #[] 0)) := (Below.refl _ w7).alloc (Nat.le_refl _) _
     exact b0.grown (t1.grown.trans t2.grown) b0.size (fun q hq => by simp at hq; omega)
   have H9 := hid (H7.out.below HB79.out)
   have HP9 := hid (HP7.out.below HB79.out)
   have HMR : Hid (w7.heap.size ≠ R) := by have := Go.lt_of_block H7.out.r; show _ ≠ _; omega
   have cE := element_any H R s hs6 HRH.out 16 0 rfl u 0 w9 w7.heap.size 2 X.known0 H9.out.own hus (by omega) (HG.out.keep HP9.out.b) HK9.out HMR.out (by omega)
   obtain ⟨M, hM⟩ : ∃ M, w7.heap.size = M := ⟨_, rfl⟩
   have HFE := hid (X.elem_fair s.data.toList 16 X.known0 0 (rest s u))
   clear m0 m1 m2 t1 t2 hM
   go_wp2_with fail
   refine cE.mono ?_
   rintro _ w10 (⟨ee, c', r, cs, hx, rfl, hh, hc', hr⟩ | ⟨n, e, hx, rfl, hr⟩)
   rotate_left
   · have HX : Hid (RES = .error (n, e)) := by show _ = _; rw [HE1.out, hx]
     exact leave_fail rfl rfl rfl HX.out hs (HP9.out.grown hr HR4.out)
   have hsuf := (HFE.out.1 _ _ hx).1
   have hpos := rest_pos hsuf hus
   have hre := rest_suf hsuf
   obtain ⟨v, hv⟩ : ∃ v, s.size - r.length = v := ⟨_, rfl⟩
   rw [hv] at hr hpos hre
   have hvs := hpos.2
   have HE2 : Hid (RES = match X.misc (s.size + 1) (rest s v) with
       | .error e => .error e
       | .ok (_, l3) => if l3 = [] then .ok ee else .error (X.bad l3)) := by
     show _ = _
     rw [HE1.out, hx, ← hre]
   obtain ⟨av, kv, rfl, hav, hkv⟩ := hh
   obtain ⟨ava, avc, rfl⟩ := hav.shape
   obtain ⟨kva, kvc, rfl⟩ := hkv.shape
   have hhas : ee.Has w10 (OwnN w10 w9.heap.size none) [.string ee.sp, .string ee.lo, .slice ava (X.E.as ee).length avc, .slice kva ee.ks.length kvc, .string ee.tx, .int .i64 ee.ln, .int .i64 ee.cl] := ⟨_, _, rfl, hav, hkv⟩
   obtain ⟨esp, hesp⟩ : ∃ z, ee.sp = z := ⟨_, rfl⟩
   obtain ⟨elo, helo⟩ : ∃ z, ee.lo = z := ⟨_, rfl⟩
   obtain ⟨etx, hetx⟩ : ∃ z, ee.tx = z := ⟨_, rfl⟩
   obtain ⟨eln, heln⟩ : ∃ z, ee.ln = z := ⟨_, rfl⟩
   obtain ⟨ecl, hecl⟩ : ∃ z, ee.cl = z := ⟨_, rfl⟩
   obtain ⟨avn, havn⟩ : ∃ z, (X.E.as ee).length = z := ⟨_, rfl⟩
   obtain ⟨kvn, hkvn⟩ : ∃ z, ee.ks.length = z := ⟨_, rfl⟩
   rw [hesp, helo, hetx, heln, hecl, havn, hkvn] at hhas ⊢
   have HHAS := hid hhas
   clear hav hkv hhas hesp helo hetx heln hecl havn hkvn
   have HP10 : Hid (PB W H s w10) := HP9.out.grown hr.g HR4.out
   have hr10 := hr.r
   have HSZ : Hid (R < w9.heap.size ∧ w9.heap.size ≤ w10.heap.size) := ⟨Go.lt_of_block H9.out.r, hr.g.size⟩
   obtain ⟨x0, x1, x2, x3, x4, x5, x6, hn10⟩ := HP10.out.n
   obtain ⟨y0, y1, y2, y3, y4, y5, y6⟩ := row7 hn10
   have f0 := rowFree hn10 0
   have f1 := rowFree hn10 1
   have f2 := rowFree hn10 2
   have f3 := rowFree hn10 3
   have f4 := rowFree hn10 4
   have f5 := rowFree hn10 5
   have f6 := rowFree hn10 6
   obtain ⟨w11, hw11⟩ : ∃ w11, st7 w10 (H + 1) (.string esp) (.string elo) (.slice ava avn avc) (.slice kva kvn kvc) (.string etx) (.int .i64 eln) (.int .i64 ecl) = w11 := ⟨_, rfl⟩
   have g11 : w10.grownBy w11 (some (H + 1)) := by rw [← hw11]; exact st7_grown _ _ _ _ _ _ _ _ _
   have HN11 : Hid (w11.heap[H + 1]? = some (.cells #[.string esp, .string elo, .slice ava avn avc, .slice kva kvn kvc, .string etx, .int .i64 eln, .int .i64 ecl] 44 (0, 0))) := by show _ = _; rw [← hw11]; exact st7_row hn10 _ _ _ _ _ _ _
   have HP11 : Hid (PB W H s w11) := HP10.out.setN g11 HN11.out
   have hr11 : w11.heap[R]? = some (mRow s v c') := (g11.block R (Go.lt_of_block hr10) (fun e => by have := Option.some.inj e; have := HR4.out; omega)).trans hr10
   have H11 : Hid (Rd w11 R s v c' w11) := ⟨⟨rfl, rfl, rfl, Nat.le_refl _, fun _ _ _ => rfl⟩, hr11, Go.lt_of_block hr11⟩
   have HFAR11 : Hid (∀ b, w9.heap.size ≤ b → b < w10.heap.size → w11.heap[b]? = w10.heap[b]?) := fun b h1 h2 => g11.block b h2 (fun e => by have := Option.some.inj e; have := HSZ.out; have := HR4.out; omega)
   have HS11 : Hid (w10.heap.size ≤ w11.heap.size) := g11.size
   have cM := misc_any (s.size + 1) (by omega) H11.out.own hvs hs (HG.out.keep HP11.out.b) HRH.out
   have HFM := hid (X.misc_fair (s.size + 1) (rest s v))
   have HW11 : Hid ((((((((w10.setCell ⟨H + 1, 0, none⟩ (.string esp)).setCell ⟨H + 1, 1, none⟩ (.string elo)).setCell ⟨H + 1, 2, none⟩ (.slice ava avn avc)).setCell ⟨H + 1, 3, none⟩ (.slice kva kvn kvc)).setCell ⟨H + 1, 4, none⟩ (.string etx)).setCell ⟨H + 1, 5, none⟩ (.int .i64 eln)).setCell ⟨H + 1, 6, none⟩ (.int .i64 ecl)) = w11) := hw11
   clear hx hr hr10 hr11 hsuf hpos hre hv cE HFE HE1 hn10 g11 hw11 HP10 H9 HP9 HB79 HK9 H7 HP7
   go_upto_region 11 with fail
   rw [HW11.out]
   clear HW11 y0 y1 y2 y3 y4 y5 y6 f0 f1 f2 f3 f4 f5 f6
   go_wp2_with fail
   refine cM.mono ?_
   rintro e w12 (⟨_, r, hx, rfl, hr⟩ | ⟨n, e, hx, rfl, hr⟩)
   rotate_left
   · have HX : Hid (RES = .error (n, e)) := by show _ = _; rw [HE2.out, hx]
     exact leave_fail rfl rfl rfl HX.out hs (HP11.out.grown hr HR4.out)
   have hsuf := (HFM.out.1 _ _ hx).1
   have hpos := rest_pos hsuf hvs
   have hre := rest_suf hsuf
   obtain ⟨x, hxx⟩ : ∃ x, s.size - r.length = x := ⟨_, rfl⟩
   rw [hxx] at hr hpos hre
   have hxs := hpos.2
   have HE3 : Hid (RES = if rest s x = [] then .ok ee else .error (X.bad (rest s x))) := by
     show _ = _
     rw [HE2.out, hx, ← hre]
   have HP12 : Hid (PB W H s w12) := HP11.out.grown hr.g HR4.out
   have HN12 : Hid (w12.heap[H + 1]? = some (.cells #[.string esp, .string elo, .slice ava avn avc, .slice kva kvn kvc, .string etx, .int .i64 eln, .int .i64 ecl] 44 (0, 0))) := (hr.g.block (H + 1) (Go.lt_of_block HN11.out) (fun e => by have := Option.some.inj e; have := HR4.out; omega)).trans HN11.out
   have HFAR12 : Hid (∀ b, w9.heap.size ≤ b → b < w10.heap.size → w12.heap[b]? = w10.heap[b]?) := fun b h1 h2 => (hr.g.block b (by have := HS11.out; omega) (fun e => by have := Option.some.inj e; have := HSZ.out; omega)).trans (HFAR11.out b h1 h2)
   have HS12 : Hid (w10.heap.size ≤ w12.heap.size) := Nat.le_trans HS11.out hr.g.size
   have H12 := hid hr
   have d1 : w12.cell? ⟨R, 1, none⟩ = some (.int .i64 x) := hr.cells.2.1
   have d0 : w12.cell? ⟨H, 0, none⟩ = some (.string s) := rowCell HP12.out.s 0
   have l1 : R < w12.heap.size := Go.lt_of_block hr.r
   have l0 : H < w12.heap.size := Go.lt_of_block HP12.out.s
   have HC1 : Hid (∀ w', Below w12.heap.size w12 w' → w'.cell? ⟨R, 1, none⟩ = some (.int .i64 x)) := fun w' hb => (hb.cell (p := ⟨R, 1, none⟩) l1).trans d1
   have HC0 : Hid (∀ w', Below w12.heap.size w12 w' → w'.cell? ⟨H, 0, none⟩ = some (.string s)) := fun w' hb => (hb.cell (p := ⟨H, 0, none⟩) l0).trans d0
   clear hx hr hsuf hpos hre hxx cM HFM HE2 H11 HP11 HN11 HFAR11 d1 d0 l1 l0 HS11
   go_wp2_with fail
   by_cases hlt : x < s.size
   · have HX : Hid (RES = .error (X.bad (rest s x))) := by
       show _ = _
       rw [HE3.out, if_neg (by rw [rest_nil]; omega)]
     have k0 : decide ((x : Int) < (s.size : Int)) = true := decide_eq_true (by omega)
     have k1 : decide (x < s.size) = true := decide_eq_true hlt
     clear hlt HE3
     refine quiet_lit (C := (fun w1 => Below w12.heap.size w12 w1)) (by kernel_rfl) (by kernel_rfl) ((Below.refl _ _).drew) ?_
     repeat (first
       | go_big_quiet_skip
       | (go_big_quiet_want
          refine quiet_val (x := ?_) (fun vv hC => ?_) ?_
          rotate_left
          · skip
            have c1 := HC1.out _ hC
            have c0 := HC0.out _ hC
            clear hC
            go_simp
            with_reducible rfl
          go_big_quiet_on
          try simp only [Act.put, List.setIfInBounds_toArray, List.set_cons_zero, List.set_cons_succ]))
     refine wpQuiet_nil ?_
     intro vq hq
     have H13 : Hid (Rd w11 R s x c' vq) := H12.out.below hq
     have HP13 : Hid (PB W H s vq) := HP12.out.below hq
     have cB := bad_any H13.out.own hxs
     clear hq
     go_wp2_with fail
     refine cB.mono ?_
     rintro e w14 ⟨rfl, hbl⟩
     exact leave_fail rfl rfl rfl HX.out hs (HP13.out.below hbl)
   · have HX : Hid (RES = .ok ee) := by
       show _ = _
       rw [HE3.out, if_pos ((rest_nil s x).2 (by omega))]
     have k0 : decide ((x : Int) < (s.size : Int)) = false := decide_eq_false (by omega)
     have k1 : decide (x < s.size) = false := decide_eq_false hlt
     clear hlt HE3
     refine quiet_lit (C := (fun w1 => Below w12.heap.size w12 w1)) (by kernel_rfl) (by kernel_rfl) ((Below.refl _ _).drew) ?_
     repeat (first
       | go_big_quiet_skip
       | (go_big_quiet_want
          refine quiet_val (x := ?_) (fun vv hC => ?_) ?_
          rotate_left
          · skip
            have c1 := HC1.out _ hC
            have c0 := HC0.out _ hC
            clear hC
            go_simp
            with_reducible rfl
          go_big_quiet_on
          try simp only [Act.put, List.setIfInBounds_toArray, List.set_cons_zero, List.set_cons_succ]))
     refine wpQuiet_nil ?_
     intro vq hq
     obtain ⟨w13, hw13⟩ : ∃ w13, vq = w13 := ⟨_, rfl⟩
     rw [hw13] at hq ⊢
     have HP13 : Hid (PB W H s w13) := HP12.out.below hq
     have HN13 : Hid (w13.heap[H + 1]? = some (.cells #[.string esp, .string elo, .slice ava avn avc, .slice kva kvn kvc, .string etx, .int .i64 eln, .int .i64 ecl] 44 (0, 0))) := (hq.block (H + 1) (Go.lt_of_block HN12.out)).trans HN12.out
     have HFAR13 : Hid (∀ b, w9.heap.size ≤ b → b < w10.heap.size → w13.heap[b]? = w10.heap[b]?) := fun b h1 h2 => (hq.block b (by have := HS12.out; omega)).trans (HFAR12.out b h1 h2)
     have HS13 : Hid (w10.heap.size ≤ w13.heap.size) := Nat.le_trans HS12.out hq.size
     clear hq hw13 HP12 HN12 HFAR12 HS12 H12
     obtain ⟨p0, p1, hp13⟩ := HP13.out.p
     obtain ⟨e0, he13⟩ := HP13.out.e
     obtain ⟨y0, y1, y2, y3, y4, y5, y6⟩ := row7 HN13.out
     have f0 := rowFree HN13.out 0
     have f1 := rowFree HN13.out 1
     have f2 := rowFree HN13.out 2
     have f3 := rowFree HN13.out 3
     have f4 := rowFree HN13.out 4
     have f5 := rowFree HN13.out 5
     have f6 := rowFree HN13.out 6
     obtain ⟨z0, z1⟩ := row2 hp13
     have fz0 := rowFree hp13 0
     have fz1 := rowFree hp13 1
     have v0 := rowCell he13 0
     have fv0 := rowFree he13 0
     have HP2' := hid hp13
     have HE2' := hid he13
     clear hp13 he13
     go_wp2_with fail
     have ga := st7_grown w13 (H + 1) (.string esp) (.string elo) (.slice ava avn avc) (.slice kva kvn kvc) (.string etx) (.int .i64 eln) (.int .i64 ecl)
     have na := st7_row HN13.out (.string esp) (.string elo) (.slice ava avn avc) (.slice kva kvn kvc) (.string etx) (.int .i64 eln) (.int .i64 ecl)
     have gb := (grownBy_set (st7 w13 (H + 1) (.string esp) (.string elo) (.slice ava avn avc) (.slice kva kvn kvc) (.string etx) (.int .i64 eln) (.int .i64 ecl)) (H + 2) 0 (.int .i64 0)).trans (grownBy_set _ (H + 2) 1 (.int .i64 0))
     have gc := grownBy_set (((st7 w13 (H + 1) (.string esp) (.string elo) (.slice ava avn avc) (.slice kva kvn kvc) (.string etx) (.int .i64 eln) (.int .i64 ecl)).setCell ⟨H + 2, 0, none⟩ (.int .i64 0)).setCell ⟨H + 2, 1, none⟩ (.int .i64 0)) (H + 3) 0 (.int .i64 0)
     have hl13 := HP13.out.lt
     have pa : (st7 w13 (H + 1) (.string esp) (.string elo) (.slice ava avn avc) (.slice kva kvn kvc) (.string etx) (.int .i64 eln) (.int .i64 ecl)).heap[H + 2]? = some (.cells #[p0, p1] 32 (0, 0)) := (ga.block (H + 2) (by omega) (fun e => by have := Option.some.inj e; omega)).trans HP2'.out
     have ea : (st7 w13 (H + 1) (.string esp) (.string elo) (.slice ava avn avc) (.slice kva kvn kvc) (.string etx) (.int .i64 eln) (.int .i64 ecl)).heap[H + 3]? = some (.cells #[e0] 23 (0, 0)) := (ga.block (H + 3) (by omega) (fun e => by have := Option.some.inj e; omega)).trans HE2'.out
     have pb := row_set (row_set pa 0 (.int .i64 0)) 1 (.int .i64 0)
     have eb := (gb.block (H + 3) (by have := ga.size; omega) (fun e => by have := Option.some.inj e; omega)).trans ea
     have ec := row_set eb 0 (.int .i64 0)
     have pc := (gc.block (H + 2) (by have := ga.size; have := gb.size; omega) (fun e => by have := Option.some.inj e; omega)).trans pb
     have nb := (gb.block (H + 1) (by have := ga.size; omega) (fun e => by have := Option.some.inj e; omega)).trans na
     have nc := (gc.block (H + 1) (by have := ga.size; have := gb.size; omega) (fun e => by have := Option.some.inj e; omega)).trans nb
     have hfar : ∀ b, w9.heap.size ≤ b → b < w10.heap.size → (((((st7 w13 (H + 1) (.string esp) (.string elo) (.slice ava avn avc) (.slice kva kvn kvc) (.string etx) (.int .i64 eln) (.int .i64 ecl)).setCell ⟨H + 2, 0, none⟩ (.int .i64 0)).setCell ⟨H + 2, 1, none⟩ (.int .i64 0)).setCell ⟨H + 3, 0, none⟩ (.int .i64 0))).heap[b]? = w10.heap[b]? := by
       intro b h1 h2
       have := HSZ.out
       have := HS13.out
       have := HR4.out
       have sa := ga.size
       have sb := gb.size
       rw [gc.block b (by omega) (fun e => by have := Option.some.inj e; omega), gb.block b (by omega) (fun e => by have := Option.some.inj e; omega), ga.block b (by omega) (fun e => by have := Option.some.inj e; omega)]
       exact HFAR13.out b h1 h2
     exact leave_ok (e := ee) (cs := [.string esp, .string elo, .slice ava avn avc, .slice kva kvn kvc, .string etx, .int .i64 eln, .int .i64 ecl]) rfl rfl rfl HX.out nc rfl pc ec HP13.out.h (X.E.Has.keep (fun b hb => hb.via (hfar b hb.1 hb.2.1) (by have := HSZ.out; have := HR4.out; omega)) (fun b hb => hfar b hb.1 hb.2.1) HHAS.out) (((HP13.out.b.grown ga (by omega) (fun k hk => by have := Option.some.inj hk; omega)).grown gb (by have := ga.size; omega) (fun k hk => by have := Option.some.inj hk; omega)).grown gc (by have := ga.size; have := gb.size; omega) (fun k hk => by have := Option.some.inj hk; omega))
 · have H2' := hid (HR2.out.below g3)
   have HP2' := hid (HP2.out.below g3)
   have cT2 := take_l (k := 38) X.head2 ⟨#[60, 63, 120, 109, 108, 32, 118, 101, 114, 115, 105, 111, 110, 61, 34, 49, 46, 48, 34, 32, 101, 110, 99, 111, 100, 105, 110, 103, 61, 34, 85, 84, 70, 45, 56, 34, 63, 62]⟩ rfl rfl H2'.out.own (Nat.zero_le _) hs
   clear g3 cT HR2 HP2
   go_wp2_with fail
   refine cT2.mono ?_
   rintro e w3 (⟨k1, g2, rfl, g3⟩ | ⟨k1, rfl, g3⟩)
   · obtain rfl : p0 = 38 := by
       rcases hcase with ⟨h, _⟩ | ⟨_, _, h⟩ | ⟨_, h, _⟩
       · rw [g1] at h; cases h
       · exact h
       · rw [k1] at h; cases h
     have H3 : Hid (Rd w2 R s 38 0 w3) := H2'.out.trans g3
     have HP3 : Hid (PB W H s w3) := HP2'.out.grown g3.g HR4.out
     clear g1 k1 g2 g3 cT2 hcase H2' HP2'
     have HE0 : Hid (RES = match X.misc (s.size + 1) (rest s 38) with
         | .error e => .error e
         | .ok (_, l) =>
           if (![60].isPrefixOf l || [60, 33].isPrefixOf l || [60, 63].isPrefixOf l) = true then .error (X.bad l)
           else match X.elem s.data.toList 16 X.known0 0 l with
             | .error e => .error e
             | .ok ((e, _), l2) => match X.misc (s.size + 1) l2 with
               | .error e => .error e
               | .ok (_, l3) => if l3 = [] then .ok e else .error (X.bad l3)) := by
       show _ = _
       rw [← hRES, X.parse, hst, ← Lib.size_eq]
       rfl
     have cM := misc_any (s.size + 1) (by omega) H3.out.own hp0 hs (HG.out.keep HP3.out.b) HRH.out
     have HFM := hid (X.misc_fair (s.size + 1) (rest s 38))
     clear hst
     go_wp2_with fail
     refine cM.mono ?_
     rintro e w4 (⟨_, r, hx, rfl, hr⟩ | ⟨n, e, hx, rfl, hr⟩)
     rotate_left
     · have HX : Hid (RES = .error (n, e)) := by show _ = _; rw [HE0.out, hx]
       exact leave_fail rfl rfl rfl HX.out hs (HP3.out.grown hr HR4.out)
     have hsuf := (HFM.out.1 _ _ hx).1
     have hpos := rest_pos hsuf hp0
     have hre := rest_suf hsuf
     obtain ⟨u, hu⟩ : ∃ u, s.size - r.length = u := ⟨_, rfl⟩
     rw [hu] at hr hpos hre
     have hus := hpos.2
     have HE1 : Hid (RES = if (![60].isPrefixOf (rest s u) || [60, 33].isPrefixOf (rest s u) || [60, 63].isPrefixOf (rest s u)) = true then .error (X.bad (rest s u))
           else match X.elem s.data.toList 16 X.known0 0 (rest s u) with
             | .error e => .error e
             | .ok ((e, _), l2) => match X.misc (s.size + 1) l2 with
               | .error e => .error e
               | .ok (_, l3) => if l3 = [] then .ok e else .error (X.bad l3)) := by
       show _ = _
       rw [HE0.out, hx, ← hre]
     have H4 := hid (H3.out.trans hr)
     have HP4 : Hid (PB W H s w4) := HP3.out.grown hr.g HR4.out
     have cN := next_l [60] ⟨#[60]⟩ rfl H4.out.own hus
     clear hx hr hsuf hpos hre hu cM HFM HE0 H3 HP3 hp0
     cases b1 : [60].isPrefixOf (rest s u)
     · have HX : Hid (RES = .error (X.bad (rest s u))) := by show _ = _; rw [HE1.out, b1]; rfl
       rw [b1] at cN
       clear b1 HE1
       go_wp2_with fail
       refine cN.mono ?_
       rintro e w5 ⟨rfl, g3⟩
       have H5 := hid (H4.out.below g3)
       have HP5 := hid (HP4.out.below g3)
       have cB := bad_any H5.out.own hus
       clear g3 cN
       go_wp2_with fail
       refine cB.mono ?_
       rintro e w6 ⟨rfl, hbl⟩
       exact leave_fail rfl rfl rfl HX.out hs (HP5.out.below hbl)
     rw [b1] at cN HE1
     clear b1
     go_wp2_with fail
     refine cN.mono ?_
     rintro e w5 ⟨rfl, g3⟩
     have H5 := hid (H4.out.below g3)
     have HP5 := hid (HP4.out.below g3)
     clear g3 cN H4 HP4
     have cN := next_l [60, 33] ⟨#[60, 33]⟩ rfl H5.out.own hus
     cases b2 : [60, 33].isPrefixOf (rest s u)
     rotate_left
     · have HX : Hid (RES = .error (X.bad (rest s u))) := by show _ = _; rw [HE1.out, b2]; rfl
       rw [b2] at cN
       clear b2 HE1
       go_wp2_with fail
       refine cN.mono ?_
       rintro e w6 ⟨rfl, g3⟩
       have H6 := hid (H5.out.below g3)
       have HP6 := hid (HP5.out.below g3)
       have cB := bad_any H6.out.own hus
       clear g3 cN
       go_wp2_with fail
       refine cB.mono ?_
       rintro e w7 ⟨rfl, hbl⟩
       exact leave_fail rfl rfl rfl HX.out hs (HP6.out.below hbl)
     rw [b2] at cN HE1
     clear b2
     go_wp2_with fail
     refine cN.mono ?_
     rintro e w6 ⟨rfl, g3⟩
     have H6 := hid (H5.out.below g3)
     have HP6 := hid (HP5.out.below g3)
     clear g3 cN H5 HP5
     have cN := next_l [60, 63] ⟨#[60, 63]⟩ rfl H6.out.own hus
     cases b3 : [60, 63].isPrefixOf (rest s u)
     rotate_left
     · have HX : Hid (RES = .error (X.bad (rest s u))) := by show _ = _; rw [HE1.out, b3]; rfl
       rw [b3] at cN
       clear b3 HE1
       go_wp2_with fail
       refine cN.mono ?_
       rintro e w7 ⟨rfl, g3⟩
       have H7 := hid (H6.out.below g3)
       have HP7 := hid (HP6.out.below g3)
       have cB := bad_any H7.out.own hus
       clear g3 cN
       go_wp2_with fail
       refine cB.mono ?_
       rintro e w8 ⟨rfl, hbl⟩
       exact leave_fail rfl rfl rfl HX.out hs (HP7.out.below hbl)
     rw [b3] at cN HE1
     clear b3
     simp only [Bool.not_true, Bool.or_false, Bool.false_eq_true, if_false] at HE1
     go_wp2_with fail
     refine cN.mono ?_
     rintro e w7 ⟨rfl, g3⟩
     have H7 := hid (H6.out.below g3)
     have HP7 := hid (HP6.out.below g3)
     clear g3 cN H6 HP6
     have hmm := @run_makeMap Tryz.prog
     have m0 : KM (w7.alloc (.map #[] 0)) w7.heap.size 0 [] := World.ownsMap_made (H := Unit) w7 Tryz.prog 9 (plainElem Tryz.prog 9)
     obtain ⟨w8, u1, m1, t1⟩ := m0.put (by unfold maxLen; omega) ⟨#[]⟩ ⟨#[]⟩ (by decide) (by decide)
     obtain ⟨w9, u2, m2, t2⟩ := m1.put (by unfold maxLen; omega) ⟨#[120, 109, 108]⟩ ⟨#[104, 116, 116, 112, 58, 47, 47, 119, 119, 119, 46, 119, 51, 46, 111, 114, 103, 47, 88, 77, 76, 47, 49, 57, 57, 56, 47, 110, 97, 109, 101, 115, 112, 97, 99, 101]⟩ (by decide) (by decide)
     have HK9 : Hid (KM w9 w7.heap.size 2 X.known0) := m2
     have HB79 : Hid (Below w7.heap.size w7 w9) := by
       have b0 : Below w7.heap.size w7 (w7.alloc (.map #[] 0)) := (Below.refl _ w7).alloc (Nat.le_refl _) _
       exact b0.grown (t1.grown.trans t2.grown) b0.size (fun q hq => by simp at hq; omega)
     have H9 := hid (H7.out.below HB79.out)
     have HP9 := hid (HP7.out.below HB79.out)
     have HMR : Hid (w7.heap.size ≠ R) := by have := Go.lt_of_block H7.out.r; show _ ≠ _; omega
     have cE := element_any H R s hs6 HRH.out 16 0 rfl u 0 w9 w7.heap.size 2 X.known0 H9.out.own hus (by omega) (HG.out.keep HP9.out.b) HK9.out HMR.out (by omega)
     obtain ⟨M, hM⟩ : ∃ M, w7.heap.size = M := ⟨_, rfl⟩
     have HFE := hid (X.elem_fair s.data.toList 16 X.known0 0 (rest s u))
     clear m0 m1 m2 t1 t2 hM
     go_wp2_with fail
     refine cE.mono ?_
     rintro _ w10 (⟨ee, c', r, cs, hx, rfl, hh, hc', hr⟩ | ⟨n, e, hx, rfl, hr⟩)
     rotate_left
     · have HX : Hid (RES = .error (n, e)) := by show _ = _; rw [HE1.out, hx]
       exact leave_fail rfl rfl rfl HX.out hs (HP9.out.grown hr HR4.out)
     have hsuf := (HFE.out.1 _ _ hx).1
     have hpos := rest_pos hsuf hus
     have hre := rest_suf hsuf
     obtain ⟨v, hv⟩ : ∃ v, s.size - r.length = v := ⟨_, rfl⟩
     rw [hv] at hr hpos hre
     have hvs := hpos.2
     have HE2 : Hid (RES = match X.misc (s.size + 1) (rest s v) with
         | .error e => .error e
         | .ok (_, l3) => if l3 = [] then .ok ee else .error (X.bad l3)) := by
       show _ = _
       rw [HE1.out, hx, ← hre]
     obtain ⟨av, kv, rfl, hav, hkv⟩ := hh
     obtain ⟨ava, avc, rfl⟩ := hav.shape
     obtain ⟨kva, kvc, rfl⟩ := hkv.shape
     have hhas : ee.Has w10 (OwnN w10 w9.heap.size none) [.string ee.sp, .string ee.lo, .slice ava (X.E.as ee).length avc, .slice kva ee.ks.length kvc, .string ee.tx, .int .i64 ee.ln, .int .i64 ee.cl] := ⟨_, _, rfl, hav, hkv⟩
     obtain ⟨esp, hesp⟩ : ∃ z, ee.sp = z := ⟨_, rfl⟩
     obtain ⟨elo, helo⟩ : ∃ z, ee.lo = z := ⟨_, rfl⟩
     obtain ⟨etx, hetx⟩ : ∃ z, ee.tx = z := ⟨_, rfl⟩
     obtain ⟨eln, heln⟩ : ∃ z, ee.ln = z := ⟨_, rfl⟩
     obtain ⟨ecl, hecl⟩ : ∃ z, ee.cl = z := ⟨_, rfl⟩
     obtain ⟨avn, havn⟩ : ∃ z, (X.E.as ee).length = z := ⟨_, rfl⟩
     obtain ⟨kvn, hkvn⟩ : ∃ z, ee.ks.length = z := ⟨_, rfl⟩
     rw [hesp, helo, hetx, heln, hecl, havn, hkvn] at hhas ⊢
     have HHAS := hid hhas
     clear hav hkv hhas hesp helo hetx heln hecl havn hkvn
     have HP10 : Hid (PB W H s w10) := HP9.out.grown hr.g HR4.out
     have hr10 := hr.r
     have HSZ : Hid (R < w9.heap.size ∧ w9.heap.size ≤ w10.heap.size) := ⟨Go.lt_of_block H9.out.r, hr.g.size⟩
     obtain ⟨x0, x1, x2, x3, x4, x5, x6, hn10⟩ := HP10.out.n
     obtain ⟨y0, y1, y2, y3, y4, y5, y6⟩ := row7 hn10
     have f0 := rowFree hn10 0
     have f1 := rowFree hn10 1
     have f2 := rowFree hn10 2
     have f3 := rowFree hn10 3
     have f4 := rowFree hn10 4
     have f5 := rowFree hn10 5
     have f6 := rowFree hn10 6
     obtain ⟨w11, hw11⟩ : ∃ w11, st7 w10 (H + 1) (.string esp) (.string elo) (.slice ava avn avc) (.slice kva kvn kvc) (.string etx) (.int .i64 eln) (.int .i64 ecl) = w11 := ⟨_, rfl⟩
     have g11 : w10.grownBy w11 (some (H + 1)) := by rw [← hw11]; exact st7_grown _ _ _ _ _ _ _ _ _
     have HN11 : Hid (w11.heap[H + 1]? = some (.cells #[.string esp, .string elo, .slice ava avn avc, .slice kva kvn kvc, .string etx, .int .i64 eln, .int .i64 ecl] 44 (0, 0))) := by show _ = _; rw [← hw11]; exact st7_row hn10 _ _ _ _ _ _ _
     have HP11 : Hid (PB W H s w11) := HP10.out.setN g11 HN11.out
     have hr11 : w11.heap[R]? = some (mRow s v c') := (g11.block R (Go.lt_of_block hr10) (fun e => by have := Option.some.inj e; have := HR4.out; omega)).trans hr10
     have H11 : Hid (Rd w11 R s v c' w11) := ⟨⟨rfl, rfl, rfl, Nat.le_refl _, fun _ _ _ => rfl⟩, hr11, Go.lt_of_block hr11⟩
     have HFAR11 : Hid (∀ b, w9.heap.size ≤ b → b < w10.heap.size → w11.heap[b]? = w10.heap[b]?) := fun b h1 h2 => g11.block b h2 (fun e => by have := Option.some.inj e; have := HSZ.out; have := HR4.out; omega)
     have HS11 : Hid (w10.heap.size ≤ w11.heap.size) := g11.size
     have cM := misc_any (s.size + 1) (by omega) H11.out.own hvs hs (HG.out.keep HP11.out.b) HRH.out
     have HFM := hid (X.misc_fair (s.size + 1) (rest s v))
     have HW11 : Hid ((((((((w10.setCell ⟨H + 1, 0, none⟩ (.string esp)).setCell ⟨H + 1, 1, none⟩ (.string elo)).setCell ⟨H + 1, 2, none⟩ (.slice ava avn avc)).setCell ⟨H + 1, 3, none⟩ (.slice kva kvn kvc)).setCell ⟨H + 1, 4, none⟩ (.string etx)).setCell ⟨H + 1, 5, none⟩ (.int .i64 eln)).setCell ⟨H + 1, 6, none⟩ (.int .i64 ecl)) = w11) := hw11
     clear hx hr hr10 hr11 hsuf hpos hre hv cE HFE HE1 hn10 g11 hw11 HP10 H9 HP9 HB79 HK9 H7 HP7
     go_upto_region 11 with fail
     rw [HW11.out]
     clear HW11 y0 y1 y2 y3 y4 y5 y6 f0 f1 f2 f3 f4 f5 f6
     go_wp2_with fail
     refine cM.mono ?_
     rintro e w12 (⟨_, r, hx, rfl, hr⟩ | ⟨n, e, hx, rfl, hr⟩)
     rotate_left
     · have HX : Hid (RES = .error (n, e)) := by show _ = _; rw [HE2.out, hx]
       exact leave_fail rfl rfl rfl HX.out hs (HP11.out.grown hr HR4.out)
     have hsuf := (HFM.out.1 _ _ hx).1
     have hpos := rest_pos hsuf hvs
     have hre := rest_suf hsuf
     obtain ⟨x, hxx⟩ : ∃ x, s.size - r.length = x := ⟨_, rfl⟩
     rw [hxx] at hr hpos hre
     have hxs := hpos.2
     have HE3 : Hid (RES = if rest s x = [] then .ok ee else .error (X.bad (rest s x))) := by
       show _ = _
       rw [HE2.out, hx, ← hre]
     have HP12 : Hid (PB W H s w12) := HP11.out.grown hr.g HR4.out
     have HN12 : Hid (w12.heap[H + 1]? = some (.cells #[.string esp, .string elo, .slice ava avn avc, .slice kva kvn kvc, .string etx, .int .i64 eln, .int .i64 ecl] 44 (0, 0))) := (hr.g.block (H + 1) (Go.lt_of_block HN11.out) (fun e => by have := Option.some.inj e; have := HR4.out; omega)).trans HN11.out
     have HFAR12 : Hid (∀ b, w9.heap.size ≤ b → b < w10.heap.size → w12.heap[b]? = w10.heap[b]?) := fun b h1 h2 => (hr.g.block b (by have := HS11.out; omega) (fun e => by have := Option.some.inj e; have := HSZ.out; omega)).trans (HFAR11.out b h1 h2)
     have HS12 : Hid (w10.heap.size ≤ w12.heap.size) := Nat.le_trans HS11.out hr.g.size
     have H12 := hid hr
     have d1 : w12.cell? ⟨R, 1, none⟩ = some (.int .i64 x) := hr.cells.2.1
     have d0 : w12.cell? ⟨H, 0, none⟩ = some (.string s) := rowCell HP12.out.s 0
     have l1 : R < w12.heap.size := Go.lt_of_block hr.r
     have l0 : H < w12.heap.size := Go.lt_of_block HP12.out.s
     have HC1 : Hid (∀ w', Below w12.heap.size w12 w' → w'.cell? ⟨R, 1, none⟩ = some (.int .i64 x)) := fun w' hb => (hb.cell (p := ⟨R, 1, none⟩) l1).trans d1
     have HC0 : Hid (∀ w', Below w12.heap.size w12 w' → w'.cell? ⟨H, 0, none⟩ = some (.string s)) := fun w' hb => (hb.cell (p := ⟨H, 0, none⟩) l0).trans d0
     clear hx hr hsuf hpos hre hxx cM HFM HE2 H11 HP11 HN11 HFAR11 d1 d0 l1 l0 HS11
     go_wp2_with fail
     by_cases hlt : x < s.size
     · have HX : Hid (RES = .error (X.bad (rest s x))) := by
         show _ = _
         rw [HE3.out, if_neg (by rw [rest_nil]; omega)]
       have k0 : decide ((x : Int) < (s.size : Int)) = true := decide_eq_true (by omega)
       have k1 : decide (x < s.size) = true := decide_eq_true hlt
       clear hlt HE3
       refine quiet_lit (C := (fun w1 => Below w12.heap.size w12 w1)) (by kernel_rfl) (by kernel_rfl) ((Below.refl _ _).drew) ?_
       repeat (first
         | go_big_quiet_skip
         | (go_big_quiet_want
            refine quiet_val (x := ?_) (fun vv hC => ?_) ?_
            rotate_left
            · skip
              have c1 := HC1.out _ hC
              have c0 := HC0.out _ hC
              clear hC
              go_simp
              with_reducible rfl
            go_big_quiet_on
            try simp only [Act.put, List.setIfInBounds_toArray, List.set_cons_zero, List.set_cons_succ]))
       refine wpQuiet_nil ?_
       intro vq hq
       have H13 : Hid (Rd w11 R s x c' vq) := H12.out.below hq
       have HP13 : Hid (PB W H s vq) := HP12.out.below hq
       have cB := bad_any H13.out.own hxs
       clear hq
       go_wp2_with fail
       refine cB.mono ?_
       rintro e w14 ⟨rfl, hbl⟩
       exact leave_fail rfl rfl rfl HX.out hs (HP13.out.below hbl)
     · have HX : Hid (RES = .ok ee) := by
         show _ = _
         rw [HE3.out, if_pos ((rest_nil s x).2 (by omega))]
       have k0 : decide ((x : Int) < (s.size : Int)) = false := decide_eq_false (by omega)
       have k1 : decide (x < s.size) = false := decide_eq_false hlt
       clear hlt HE3
       refine quiet_lit (C := (fun w1 => Below w12.heap.size w12 w1)) (by kernel_rfl) (by kernel_rfl) ((Below.refl _ _).drew) ?_
       repeat (first
         | go_big_quiet_skip
         | (go_big_quiet_want
            refine quiet_val (x := ?_) (fun vv hC => ?_) ?_
            rotate_left
            · skip
              have c1 := HC1.out _ hC
              have c0 := HC0.out _ hC
              clear hC
              go_simp
              with_reducible rfl
            go_big_quiet_on
            try simp only [Act.put, List.setIfInBounds_toArray, List.set_cons_zero, List.set_cons_succ]))
       refine wpQuiet_nil ?_
       intro vq hq
       obtain ⟨w13, hw13⟩ : ∃ w13, vq = w13 := ⟨_, rfl⟩
       rw [hw13] at hq ⊢
       have HP13 : Hid (PB W H s w13) := HP12.out.below hq
       have HN13 : Hid (w13.heap[H + 1]? = some (.cells #[.string esp, .string elo, .slice ava avn avc, .slice kva kvn kvc, .string etx, .int .i64 eln, .int .i64 ecl] 44 (0, 0))) := (hq.block (H + 1) (Go.lt_of_block HN12.out)).trans HN12.out
       have HFAR13 : Hid (∀ b, w9.heap.size ≤ b → b < w10.heap.size → w13.heap[b]? = w10.heap[b]?) := fun b h1 h2 => (hq.block b (by have := HS12.out; omega)).trans (HFAR12.out b h1 h2)
       have HS13 : Hid (w10.heap.size ≤ w13.heap.size) := Nat.le_trans HS12.out hq.size
       clear hq hw13 HP12 HN12 HFAR12 HS12 H12
       obtain ⟨p0, p1, hp13⟩ := HP13.out.p
       obtain ⟨e0, he13⟩ := HP13.out.e
       obtain ⟨y0, y1, y2, y3, y4, y5, y6⟩ := row7 HN13.out
       have f0 := rowFree HN13.out 0
       have f1 := rowFree HN13.out 1
       have f2 := rowFree HN13.out 2
       have f3 := rowFree HN13.out 3
       have f4 := rowFree HN13.out 4
       have f5 := rowFree HN13.out 5
       have f6 := rowFree HN13.out 6
       obtain ⟨z0, z1⟩ := row2 hp13
       have fz0 := rowFree hp13 0
       have fz1 := rowFree hp13 1
       have v0 := rowCell he13 0
       have fv0 := rowFree he13 0
       have HP2' := hid hp13
       have HE2' := hid he13
       clear hp13 he13
       go_wp2_with fail
       have ga := st7_grown w13 (H + 1) (.string esp) (.string elo) (.slice ava avn avc) (.slice kva kvn kvc) (.string etx) (.int .i64 eln) (.int .i64 ecl)
       have na := st7_row HN13.out (.string esp) (.string elo) (.slice ava avn avc) (.slice kva kvn kvc) (.string etx) (.int .i64 eln) (.int .i64 ecl)
       have gb := (grownBy_set (st7 w13 (H + 1) (.string esp) (.string elo) (.slice ava avn avc) (.slice kva kvn kvc) (.string etx) (.int .i64 eln) (.int .i64 ecl)) (H + 2) 0 (.int .i64 0)).trans (grownBy_set _ (H + 2) 1 (.int .i64 0))
       have gc := grownBy_set (((st7 w13 (H + 1) (.string esp) (.string elo) (.slice ava avn avc) (.slice kva kvn kvc) (.string etx) (.int .i64 eln) (.int .i64 ecl)).setCell ⟨H + 2, 0, none⟩ (.int .i64 0)).setCell ⟨H + 2, 1, none⟩ (.int .i64 0)) (H + 3) 0 (.int .i64 0)
       have hl13 := HP13.out.lt
       have pa : (st7 w13 (H + 1) (.string esp) (.string elo) (.slice ava avn avc) (.slice kva kvn kvc) (.string etx) (.int .i64 eln) (.int .i64 ecl)).heap[H + 2]? = some (.cells #[p0, p1] 32 (0, 0)) := (ga.block (H + 2) (by omega) (fun e => by have := Option.some.inj e; omega)).trans HP2'.out
       have ea : (st7 w13 (H + 1) (.string esp) (.string elo) (.slice ava avn avc) (.slice kva kvn kvc) (.string etx) (.int .i64 eln) (.int .i64 ecl)).heap[H + 3]? = some (.cells #[e0] 23 (0, 0)) := (ga.block (H + 3) (by omega) (fun e => by have := Option.some.inj e; omega)).trans HE2'.out
       have pb := row_set (row_set pa 0 (.int .i64 0)) 1 (.int .i64 0)
       have eb := (gb.block (H + 3) (by have := ga.size; omega) (fun e => by have := Option.some.inj e; omega)).trans ea
       have ec := row_set eb 0 (.int .i64 0)
       have pc := (gc.block (H + 2) (by have := ga.size; have := gb.size; omega) (fun e => by have := Option.some.inj e; omega)).trans pb
       have nb := (gb.block (H + 1) (by have := ga.size; omega) (fun e => by have := Option.some.inj e; omega)).trans na
       have nc := (gc.block (H + 1) (by have := ga.size; have := gb.size; omega) (fun e => by have := Option.some.inj e; omega)).trans nb
       have hfar : ∀ b, w9.heap.size ≤ b → b < w10.heap.size → (((((st7 w13 (H + 1) (.string esp) (.string elo) (.slice ava avn avc) (.slice kva kvn kvc) (.string etx) (.int .i64 eln) (.int .i64 ecl)).setCell ⟨H + 2, 0, none⟩ (.int .i64 0)).setCell ⟨H + 2, 1, none⟩ (.int .i64 0)).setCell ⟨H + 3, 0, none⟩ (.int .i64 0))).heap[b]? = w10.heap[b]? := by
         intro b h1 h2
         have := HSZ.out
         have := HS13.out
         have := HR4.out
         have sa := ga.size
         have sb := gb.size
         rw [gc.block b (by omega) (fun e => by have := Option.some.inj e; omega), gb.block b (by omega) (fun e => by have := Option.some.inj e; omega), ga.block b (by omega) (fun e => by have := Option.some.inj e; omega)]
         exact HFAR13.out b h1 h2
       exact leave_ok (e := ee) (cs := [.string esp, .string elo, .slice ava avn avc, .slice kva kvn kvc, .string etx, .int .i64 eln, .int .i64 ecl]) rfl rfl rfl HX.out nc rfl pc ec HP13.out.h (X.E.Has.keep (fun b hb => hb.via (hfar b hb.1 hb.2.1) (by have := HSZ.out; have := HR4.out; omega)) (fun b hb => hfar b hb.1 hb.2.1) HHAS.out) (((HP13.out.b.grown ga (by omega) (fun k hk => by have := Option.some.inj hk; omega)).grown gb (by have := ga.size; omega) (fun k hk => by have := Option.some.inj hk; omega)).grown gc (by have := ga.size; have := gb.size; omega) (fun k hk => by have := Option.some.inj hk; omega))
   · obtain rfl : p0 = 0 := by
       rcases hcase with ⟨h, _⟩ | ⟨_, h, _⟩ | ⟨_, _, h⟩
       · rw [g1] at h; cases h
       · rw [k1] at h; cases h
       · exact h
     have H3 := hid (H2'.out.below g3)
     have HP3 := hid (HP2'.out.below g3)
     clear g1 k1 g3 cT2 hcase H2' HP2'
     have HE0 : Hid (RES = match X.misc (s.size + 1) (rest s 0) with
         | .error e => .error e
         | .ok (_, l) =>
           if (![60].isPrefixOf l || [60, 33].isPrefixOf l || [60, 63].isPrefixOf l) = true then .error (X.bad l)
           else match X.elem s.data.toList 16 X.known0 0 l with
             | .error e => .error e
             | .ok ((e, _), l2) => match X.misc (s.size + 1) l2 with
               | .error e => .error e
               | .ok (_, l3) => if l3 = [] then .ok e else .error (X.bad l3)) := by
       show _ = _
       rw [← hRES, X.parse, hst, ← Lib.size_eq]
       rfl
     have cM := misc_any (s.size + 1) (by omega) H3.out.own hp0 hs (HG.out.keep HP3.out.b) HRH.out
     have HFM := hid (X.misc_fair (s.size + 1) (rest s 0))
     clear hst
     go_wp2_with fail
     refine cM.mono ?_
     rintro e w4 (⟨_, r, hx, rfl, hr⟩ | ⟨n, e, hx, rfl, hr⟩)
     rotate_left
     · have HX : Hid (RES = .error (n, e)) := by show _ = _; rw [HE0.out, hx]
       exact leave_fail rfl rfl rfl HX.out hs (HP3.out.grown hr HR4.out)
     have hsuf := (HFM.out.1 _ _ hx).1
     have hpos := rest_pos hsuf hp0
     have hre := rest_suf hsuf
     obtain ⟨u, hu⟩ : ∃ u, s.size - r.length = u := ⟨_, rfl⟩
     rw [hu] at hr hpos hre
     have hus := hpos.2
     have HE1 : Hid (RES = if (![60].isPrefixOf (rest s u) || [60, 33].isPrefixOf (rest s u) || [60, 63].isPrefixOf (rest s u)) = true then .error (X.bad (rest s u))
           else match X.elem s.data.toList 16 X.known0 0 (rest s u) with
             | .error e => .error e
             | .ok ((e, _), l2) => match X.misc (s.size + 1) l2 with
               | .error e => .error e
               | .ok (_, l3) => if l3 = [] then .ok e else .error (X.bad l3)) := by
       show _ = _
       rw [HE0.out, hx, ← hre]
     have H4 := hid (H3.out.trans hr)
     have HP4 : Hid (PB W H s w4) := HP3.out.grown hr.g HR4.out
     have cN := next_l [60] ⟨#[60]⟩ rfl H4.out.own hus
     clear hx hr hsuf hpos hre hu cM HFM HE0 H3 HP3 hp0
     cases b1 : [60].isPrefixOf (rest s u)
     · have HX : Hid (RES = .error (X.bad (rest s u))) := by show _ = _; rw [HE1.out, b1]; rfl
       rw [b1] at cN
       clear b1 HE1
       go_wp2_with fail
       refine cN.mono ?_
       rintro e w5 ⟨rfl, g3⟩
       have H5 := hid (H4.out.below g3)
       have HP5 := hid (HP4.out.below g3)
       have cB := bad_any H5.out.own hus
       clear g3 cN
       go_wp2_with fail
       refine cB.mono ?_
       rintro e w6 ⟨rfl, hbl⟩
       exact leave_fail rfl rfl rfl HX.out hs (HP5.out.below hbl)
     rw [b1] at cN HE1
     clear b1
     go_wp2_with fail
     refine cN.mono ?_
     rintro e w5 ⟨rfl, g3⟩
     have H5 := hid (H4.out.below g3)
     have HP5 := hid (HP4.out.below g3)
     clear g3 cN H4 HP4
     have cN := next_l [60, 33] ⟨#[60, 33]⟩ rfl H5.out.own hus
     cases b2 : [60, 33].isPrefixOf (rest s u)
     rotate_left
     · have HX : Hid (RES = .error (X.bad (rest s u))) := by show _ = _; rw [HE1.out, b2]; rfl
       rw [b2] at cN
       clear b2 HE1
       go_wp2_with fail
       refine cN.mono ?_
       rintro e w6 ⟨rfl, g3⟩
       have H6 := hid (H5.out.below g3)
       have HP6 := hid (HP5.out.below g3)
       have cB := bad_any H6.out.own hus
       clear g3 cN
       go_wp2_with fail
       refine cB.mono ?_
       rintro e w7 ⟨rfl, hbl⟩
       exact leave_fail rfl rfl rfl HX.out hs (HP6.out.below hbl)
     rw [b2] at cN HE1
     clear b2
     go_wp2_with fail
     refine cN.mono ?_
     rintro e w6 ⟨rfl, g3⟩
     have H6 := hid (H5.out.below g3)
     have HP6 := hid (HP5.out.below g3)
     clear g3 cN H5 HP5
     have cN := next_l [60, 63] ⟨#[60, 63]⟩ rfl H6.out.own hus
     cases b3 : [60, 63].isPrefixOf (rest s u)
     rotate_left
     · have HX : Hid (RES = .error (X.bad (rest s u))) := by show _ = _; rw [HE1.out, b3]; rfl
       rw [b3] at cN
       clear b3 HE1
       go_wp2_with fail
       refine cN.mono ?_
       rintro e w7 ⟨rfl, g3⟩
       have H7 := hid (H6.out.below g3)
       have HP7 := hid (HP6.out.below g3)
       have cB := bad_any H7.out.own hus
       clear g3 cN
       go_wp2_with fail
       refine cB.mono ?_
       rintro e w8 ⟨rfl, hbl⟩
       exact leave_fail rfl rfl rfl HX.out hs (HP7.out.below hbl)
     rw [b3] at cN HE1
     clear b3
     simp only [Bool.not_true, Bool.or_false, Bool.false_eq_true, if_false] at HE1
     go_wp2_with fail
     refine cN.mono ?_
     rintro e w7 ⟨rfl, g3⟩
     have H7 := hid (H6.out.below g3)
     have HP7 := hid (HP6.out.below g3)
     clear g3 cN H6 HP6
     have hmm := @run_makeMap Tryz.prog
     have m0 : KM (w7.alloc (.map #[] 0)) w7.heap.size 0 [] := World.ownsMap_made (H := Unit) w7 Tryz.prog 9 (plainElem Tryz.prog 9)
     obtain ⟨w8, u1, m1, t1⟩ := m0.put (by unfold maxLen; omega) ⟨#[]⟩ ⟨#[]⟩ (by decide) (by decide)
     obtain ⟨w9, u2, m2, t2⟩ := m1.put (by unfold maxLen; omega) ⟨#[120, 109, 108]⟩ ⟨#[104, 116, 116, 112, 58, 47, 47, 119, 119, 119, 46, 119, 51, 46, 111, 114, 103, 47, 88, 77, 76, 47, 49, 57, 57, 56, 47, 110, 97, 109, 101, 115, 112, 97, 99, 101]⟩ (by decide) (by decide)
     have HK9 : Hid (KM w9 w7.heap.size 2 X.known0) := m2
     have HB79 : Hid (Below w7.heap.size w7 w9) := by
       have b0 : Below w7.heap.size w7 (w7.alloc (.map #[] 0)) := (Below.refl _ w7).alloc (Nat.le_refl _) _
       exact b0.grown (t1.grown.trans t2.grown) b0.size (fun q hq => by simp at hq; omega)
     have H9 := hid (H7.out.below HB79.out)
     have HP9 := hid (HP7.out.below HB79.out)
     have HMR : Hid (w7.heap.size ≠ R) := by have := Go.lt_of_block H7.out.r; show _ ≠ _; omega
     have cE := element_any H R s hs6 HRH.out 16 0 rfl u 0 w9 w7.heap.size 2 X.known0 H9.out.own hus (by omega) (HG.out.keep HP9.out.b) HK9.out HMR.out (by omega)
     obtain ⟨M, hM⟩ : ∃ M, w7.heap.size = M := ⟨_, rfl⟩
     have HFE := hid (X.elem_fair s.data.toList 16 X.known0 0 (rest s u))
     clear m0 m1 m2 t1 t2 hM
     go_wp2_with fail
     refine cE.mono ?_
     rintro _ w10 (⟨ee, c', r, cs, hx, rfl, hh, hc', hr⟩ | ⟨n, e, hx, rfl, hr⟩)
     rotate_left
     · have HX : Hid (RES = .error (n, e)) := by show _ = _; rw [HE1.out, hx]
       exact leave_fail rfl rfl rfl HX.out hs (HP9.out.grown hr HR4.out)
     have hsuf := (HFE.out.1 _ _ hx).1
     have hpos := rest_pos hsuf hus
     have hre := rest_suf hsuf
     obtain ⟨v, hv⟩ : ∃ v, s.size - r.length = v := ⟨_, rfl⟩
     rw [hv] at hr hpos hre
     have hvs := hpos.2
     have HE2 : Hid (RES = match X.misc (s.size + 1) (rest s v) with
         | .error e => .error e
         | .ok (_, l3) => if l3 = [] then .ok ee else .error (X.bad l3)) := by
       show _ = _
       rw [HE1.out, hx, ← hre]
     obtain ⟨av, kv, rfl, hav, hkv⟩ := hh
     obtain ⟨ava, avc, rfl⟩ := hav.shape
     obtain ⟨kva, kvc, rfl⟩ := hkv.shape
     have hhas : ee.Has w10 (OwnN w10 w9.heap.size none) [.string ee.sp, .string ee.lo, .slice ava (X.E.as ee).length avc, .slice kva ee.ks.length kvc, .string ee.tx, .int .i64 ee.ln, .int .i64 ee.cl] := ⟨_, _, rfl, hav, hkv⟩
     obtain ⟨esp, hesp⟩ : ∃ z, ee.sp = z := ⟨_, rfl⟩
     obtain ⟨elo, helo⟩ : ∃ z, ee.lo = z := ⟨_, rfl⟩
     obtain ⟨etx, hetx⟩ : ∃ z, ee.tx = z := ⟨_, rfl⟩
     obtain ⟨eln, heln⟩ : ∃ z, ee.ln = z := ⟨_, rfl⟩
     obtain ⟨ecl, hecl⟩ : ∃ z, ee.cl = z := ⟨_, rfl⟩
     obtain ⟨avn, havn⟩ : ∃ z, (X.E.as ee).length = z := ⟨_, rfl⟩
     obtain ⟨kvn, hkvn⟩ : ∃ z, ee.ks.length = z := ⟨_, rfl⟩
     rw [hesp, helo, hetx, heln, hecl, havn, hkvn] at hhas ⊢
     have HHAS := hid hhas
     clear hav hkv hhas hesp helo hetx heln hecl havn hkvn
     have HP10 : Hid (PB W H s w10) := HP9.out.grown hr.g HR4.out
     have hr10 := hr.r
     have HSZ : Hid (R < w9.heap.size ∧ w9.heap.size ≤ w10.heap.size) := ⟨Go.lt_of_block H9.out.r, hr.g.size⟩
     obtain ⟨x0, x1, x2, x3, x4, x5, x6, hn10⟩ := HP10.out.n
     obtain ⟨y0, y1, y2, y3, y4, y5, y6⟩ := row7 hn10
     have f0 := rowFree hn10 0
     have f1 := rowFree hn10 1
     have f2 := rowFree hn10 2
     have f3 := rowFree hn10 3
     have f4 := rowFree hn10 4
     have f5 := rowFree hn10 5
     have f6 := rowFree hn10 6
     obtain ⟨w11, hw11⟩ : ∃ w11, st7 w10 (H + 1) (.string esp) (.string elo) (.slice ava avn avc) (.slice kva kvn kvc) (.string etx) (.int .i64 eln) (.int .i64 ecl) = w11 := ⟨_, rfl⟩
     have g11 : w10.grownBy w11 (some (H + 1)) := by rw [← hw11]; exact st7_grown _ _ _ _ _ _ _ _ _
     have HN11 : Hid (w11.heap[H + 1]? = some (.cells #[.string esp, .string elo, .slice ava avn avc, .slice kva kvn kvc, .string etx, .int .i64 eln, .int .i64 ecl] 44 (0, 0))) := by show _ = _; rw [← hw11]; exact st7_row hn10 _ _ _ _ _ _ _
     have HP11 : Hid (PB W H s w11) := HP10.out.setN g11 HN11.out
     have hr11 : w11.heap[R]? = some (mRow s v c') := (g11.block R (Go.lt_of_block hr10) (fun e => by have := Option.some.inj e; have := HR4.out; omega)).trans hr10
     have H11 : Hid (Rd w11 R s v c' w11) := ⟨⟨rfl, rfl, rfl, Nat.le_refl _, fun _ _ _ => rfl⟩, hr11, Go.lt_of_block hr11⟩
     have HFAR11 : Hid (∀ b, w9.heap.size ≤ b → b < w10.heap.size → w11.heap[b]? = w10.heap[b]?) := fun b h1 h2 => g11.block b h2 (fun e => by have := Option.some.inj e; have := HSZ.out; have := HR4.out; omega)
     have HS11 : Hid (w10.heap.size ≤ w11.heap.size) := g11.size
     have cM := misc_any (s.size + 1) (by omega) H11.out.own hvs hs (HG.out.keep HP11.out.b) HRH.out
     have HFM := hid (X.misc_fair (s.size + 1) (rest s v))
     have HW11 : Hid ((((((((w10.setCell ⟨H + 1, 0, none⟩ (.string esp)).setCell ⟨H + 1, 1, none⟩ (.string elo)).setCell ⟨H + 1, 2, none⟩ (.slice ava avn avc)).setCell ⟨H + 1, 3, none⟩ (.slice kva kvn kvc)).setCell ⟨H + 1, 4, none⟩ (.string etx)).setCell ⟨H + 1, 5, none⟩ (.int .i64 eln)).setCell ⟨H + 1, 6, none⟩ (.int .i64 ecl)) = w11) := hw11
     clear hx hr hr10 hr11 hsuf hpos hre hv cE HFE HE1 hn10 g11 hw11 HP10 H9 HP9 HB79 HK9 H7 HP7
     go_upto_region 11 with fail
     rw [HW11.out]
     clear HW11 y0 y1 y2 y3 y4 y5 y6 f0 f1 f2 f3 f4 f5 f6
     go_wp2_with fail
     refine cM.mono ?_
     rintro e w12 (⟨_, r, hx, rfl, hr⟩ | ⟨n, e, hx, rfl, hr⟩)
     rotate_left
     · have HX : Hid (RES = .error (n, e)) := by show _ = _; rw [HE2.out, hx]
       exact leave_fail rfl rfl rfl HX.out hs (HP11.out.grown hr HR4.out)
     have hsuf := (HFM.out.1 _ _ hx).1
     have hpos := rest_pos hsuf hvs
     have hre := rest_suf hsuf
     obtain ⟨x, hxx⟩ : ∃ x, s.size - r.length = x := ⟨_, rfl⟩
     rw [hxx] at hr hpos hre
     have hxs := hpos.2
     have HE3 : Hid (RES = if rest s x = [] then .ok ee else .error (X.bad (rest s x))) := by
       show _ = _
       rw [HE2.out, hx, ← hre]
     have HP12 : Hid (PB W H s w12) := HP11.out.grown hr.g HR4.out
     have HN12 : Hid (w12.heap[H + 1]? = some (.cells #[.string esp, .string elo, .slice ava avn avc, .slice kva kvn kvc, .string etx, .int .i64 eln, .int .i64 ecl] 44 (0, 0))) := (hr.g.block (H + 1) (Go.lt_of_block HN11.out) (fun e => by have := Option.some.inj e; have := HR4.out; omega)).trans HN11.out
     have HFAR12 : Hid (∀ b, w9.heap.size ≤ b → b < w10.heap.size → w12.heap[b]? = w10.heap[b]?) := fun b h1 h2 => (hr.g.block b (by have := HS11.out; omega) (fun e => by have := Option.some.inj e; have := HSZ.out; omega)).trans (HFAR11.out b h1 h2)
     have HS12 : Hid (w10.heap.size ≤ w12.heap.size) := Nat.le_trans HS11.out hr.g.size
     have H12 := hid hr
     have d1 : w12.cell? ⟨R, 1, none⟩ = some (.int .i64 x) := hr.cells.2.1
     have d0 : w12.cell? ⟨H, 0, none⟩ = some (.string s) := rowCell HP12.out.s 0
     have l1 : R < w12.heap.size := Go.lt_of_block hr.r
     have l0 : H < w12.heap.size := Go.lt_of_block HP12.out.s
     have HC1 : Hid (∀ w', Below w12.heap.size w12 w' → w'.cell? ⟨R, 1, none⟩ = some (.int .i64 x)) := fun w' hb => (hb.cell (p := ⟨R, 1, none⟩) l1).trans d1
     have HC0 : Hid (∀ w', Below w12.heap.size w12 w' → w'.cell? ⟨H, 0, none⟩ = some (.string s)) := fun w' hb => (hb.cell (p := ⟨H, 0, none⟩) l0).trans d0
     clear hx hr hsuf hpos hre hxx cM HFM HE2 H11 HP11 HN11 HFAR11 d1 d0 l1 l0 HS11
     go_wp2_with fail
     by_cases hlt : x < s.size
     · have HX : Hid (RES = .error (X.bad (rest s x))) := by
         show _ = _
         rw [HE3.out, if_neg (by rw [rest_nil]; omega)]
       have k0 : decide ((x : Int) < (s.size : Int)) = true := decide_eq_true (by omega)
       have k1 : decide (x < s.size) = true := decide_eq_true hlt
       clear hlt HE3
       refine quiet_lit (C := (fun w1 => Below w12.heap.size w12 w1)) (by kernel_rfl) (by kernel_rfl) ((Below.refl _ _).drew) ?_
       repeat (first
         | go_big_quiet_skip
         | (go_big_quiet_want
            refine quiet_val (x := ?_) (fun vv hC => ?_) ?_
            rotate_left
            · skip
              have c1 := HC1.out _ hC
              have c0 := HC0.out _ hC
              clear hC
              go_simp
              with_reducible rfl
            go_big_quiet_on
            try simp only [Act.put, List.setIfInBounds_toArray, List.set_cons_zero, List.set_cons_succ]))
       refine wpQuiet_nil ?_
       intro vq hq
       have H13 : Hid (Rd w11 R s x c' vq) := H12.out.below hq
       have HP13 : Hid (PB W H s vq) := HP12.out.below hq
       have cB := bad_any H13.out.own hxs
       clear hq
       go_wp2_with fail
       refine cB.mono ?_
       rintro e w14 ⟨rfl, hbl⟩
       exact leave_fail rfl rfl rfl HX.out hs (HP13.out.below hbl)
     · have HX : Hid (RES = .ok ee) := by
         show _ = _
         rw [HE3.out, if_pos ((rest_nil s x).2 (by omega))]
       have k0 : decide ((x : Int) < (s.size : Int)) = false := decide_eq_false (by omega)
       have k1 : decide (x < s.size) = false := decide_eq_false hlt
       clear hlt HE3
       refine quiet_lit (C := (fun w1 => Below w12.heap.size w12 w1)) (by kernel_rfl) (by kernel_rfl) ((Below.refl _ _).drew) ?_
       repeat (first
         | go_big_quiet_skip
         | (go_big_quiet_want
            refine quiet_val (x := ?_) (fun vv hC => ?_) ?_
            rotate_left
            · skip
              have c1 := HC1.out _ hC
              have c0 := HC0.out _ hC
              clear hC
              go_simp
              with_reducible rfl
            go_big_quiet_on
            try simp only [Act.put, List.setIfInBounds_toArray, List.set_cons_zero, List.set_cons_succ]))
       refine wpQuiet_nil ?_
       intro vq hq
       obtain ⟨w13, hw13⟩ : ∃ w13, vq = w13 := ⟨_, rfl⟩
       rw [hw13] at hq ⊢
       have HP13 : Hid (PB W H s w13) := HP12.out.below hq
       have HN13 : Hid (w13.heap[H + 1]? = some (.cells #[.string esp, .string elo, .slice ava avn avc, .slice kva kvn kvc, .string etx, .int .i64 eln, .int .i64 ecl] 44 (0, 0))) := (hq.block (H + 1) (Go.lt_of_block HN12.out)).trans HN12.out
       have HFAR13 : Hid (∀ b, w9.heap.size ≤ b → b < w10.heap.size → w13.heap[b]? = w10.heap[b]?) := fun b h1 h2 => (hq.block b (by have := HS12.out; omega)).trans (HFAR12.out b h1 h2)
       have HS13 : Hid (w10.heap.size ≤ w13.heap.size) := Nat.le_trans HS12.out hq.size
       clear hq hw13 HP12 HN12 HFAR12 HS12 H12
       obtain ⟨p0, p1, hp13⟩ := HP13.out.p
       obtain ⟨e0, he13⟩ := HP13.out.e
       obtain ⟨y0, y1, y2, y3, y4, y5, y6⟩ := row7 HN13.out
       have f0 := rowFree HN13.out 0
       have f1 := rowFree HN13.out 1
       have f2 := rowFree HN13.out 2
       have f3 := rowFree HN13.out 3
       have f4 := rowFree HN13.out 4
       have f5 := rowFree HN13.out 5
       have f6 := rowFree HN13.out 6
       obtain ⟨z0, z1⟩ := row2 hp13
       have fz0 := rowFree hp13 0
       have fz1 := rowFree hp13 1
       have v0 := rowCell he13 0
       have fv0 := rowFree he13 0
       have HP2' := hid hp13
       have HE2' := hid he13
       clear hp13 he13
       go_wp2_with fail
       have ga := st7_grown w13 (H + 1) (.string esp) (.string elo) (.slice ava avn avc) (.slice kva kvn kvc) (.string etx) (.int .i64 eln) (.int .i64 ecl)
       have na := st7_row HN13.out (.string esp) (.string elo) (.slice ava avn avc) (.slice kva kvn kvc) (.string etx) (.int .i64 eln) (.int .i64 ecl)
       have gb := (grownBy_set (st7 w13 (H + 1) (.string esp) (.string elo) (.slice ava avn avc) (.slice kva kvn kvc) (.string etx) (.int .i64 eln) (.int .i64 ecl)) (H + 2) 0 (.int .i64 0)).trans (grownBy_set _ (H + 2) 1 (.int .i64 0))
       have gc := grownBy_set (((st7 w13 (H + 1) (.string esp) (.string elo) (.slice ava avn avc) (.slice kva kvn kvc) (.string etx) (.int .i64 eln) (.int .i64 ecl)).setCell ⟨H + 2, 0, none⟩ (.int .i64 0)).setCell ⟨H + 2, 1, none⟩ (.int .i64 0)) (H + 3) 0 (.int .i64 0)
       have hl13 := HP13.out.lt
       have pa : (st7 w13 (H + 1) (.string esp) (.string elo) (.slice ava avn avc) (.slice kva kvn kvc) (.string etx) (.int .i64 eln) (.int .i64 ecl)).heap[H + 2]? = some (.cells #[p0, p1] 32 (0, 0)) := (ga.block (H + 2) (by omega) (fun e => by have := Option.some.inj e; omega)).trans HP2'.out
       have ea : (st7 w13 (H + 1) (.string esp) (.string elo) (.slice ava avn avc) (.slice kva kvn kvc) (.string etx) (.int .i64 eln) (.int .i64 ecl)).heap[H + 3]? = some (.cells #[e0] 23 (0, 0)) := (ga.block (H + 3) (by omega) (fun e => by have := Option.some.inj e; omega)).trans HE2'.out
       have pb := row_set (row_set pa 0 (.int .i64 0)) 1 (.int .i64 0)
       have eb := (gb.block (H + 3) (by have := ga.size; omega) (fun e => by have := Option.some.inj e; omega)).trans ea
       have ec := row_set eb 0 (.int .i64 0)
       have pc := (gc.block (H + 2) (by have := ga.size; have := gb.size; omega) (fun e => by have := Option.some.inj e; omega)).trans pb
       have nb := (gb.block (H + 1) (by have := ga.size; omega) (fun e => by have := Option.some.inj e; omega)).trans na
       have nc := (gc.block (H + 1) (by have := ga.size; have := gb.size; omega) (fun e => by have := Option.some.inj e; omega)).trans nb
       have hfar : ∀ b, w9.heap.size ≤ b → b < w10.heap.size → (((((st7 w13 (H + 1) (.string esp) (.string elo) (.slice ava avn avc) (.slice kva kvn kvc) (.string etx) (.int .i64 eln) (.int .i64 ecl)).setCell ⟨H + 2, 0, none⟩ (.int .i64 0)).setCell ⟨H + 2, 1, none⟩ (.int .i64 0)).setCell ⟨H + 3, 0, none⟩ (.int .i64 0))).heap[b]? = w10.heap[b]? := by
         intro b h1 h2
         have := HSZ.out
         have := HS13.out
         have := HR4.out
         have sa := ga.size
         have sb := gb.size
         rw [gc.block b (by omega) (fun e => by have := Option.some.inj e; omega), gb.block b (by omega) (fun e => by have := Option.some.inj e; omega), ga.block b (by omega) (fun e => by have := Option.some.inj e; omega)]
         exact HFAR13.out b h1 h2
       exact leave_ok (e := ee) (cs := [.string esp, .string elo, .slice ava avn avc, .slice kva kvn kvc, .string etx, .int .i64 eln, .int .i64 ecl]) rfl rfl rfl HX.out nc rfl pc ec HP13.out.h (X.E.Has.keep (fun b hb => hb.via (hfar b hb.1 hb.2.1) (by have := HSZ.out; have := HR4.out; omega)) (fun b hb => hfar b hb.1 hb.2.1) HHAS.out) (((HP13.out.b.grown ga (by omega) (fun k hk => by have := Option.some.inj hk; omega)).grown gb (by have := ga.size; omega) (fun k hk => by have := Option.some.inj hk; omega)).grown gc (by have := ga.size; have := gb.size; omega) (fun k hk => by have := Option.some.inj hk; omega))
end Go.Proofs.YteejphiklpnjhaaGreatDoor
