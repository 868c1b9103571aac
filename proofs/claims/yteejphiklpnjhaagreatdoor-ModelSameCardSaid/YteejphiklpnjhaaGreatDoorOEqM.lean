/- '==' and '!=' on binds, elements and flows. -/
import Derived.Test.YteejphiklpnjhaaGreatDoorOA2
import Derived.DeepKeys
import Derived.Laws.StructEq
namespace Go.Proofs.YteejphiklpnjhaaGreatDoor
set_option maxRecDepth 100000
set_option maxHeartbeats 16000000
open Go.RowKit Go.Maps
theorem bytes_eq {a b : ByteArray} (h : a.data.toList = b.data.toList) : a = b := by
 obtain ⟨⟨a⟩⟩ := a
 obtain ⟨⟨b⟩⟩ := b
 exact congrArg (fun l => (⟨⟨l⟩⟩ : ByteArray)) h
structure Bd where
 name : ByteArray
 k : Int
 n : Int
 b : Bool
 s : ByteArray
deriving DecidableEq
def Bd.cells (x : Bd) : List Value := [.string x.name, .int .u8 x.k, .int .i64 x.n, .bool x.b, .string x.s]
theorem Bd.eqIn (x y : Bd) (W : World) : (Op.equalIn 10000 51 (.agg x.cells.toArray) (.agg y.cells.toArray)).run Tryz.prog W = .ok (decide (x = y)) W := by
 have hu := Tryz.underlying51
 have hf : Tryz.prog.underlying 51 = some (.struct (Tryz.prog.fieldsOf 51)) := by
   unfold Program.fieldsOf
   rw [hu]
 have hp : Tryz.prog.stoodInHeld 51 = false := by kernel_rfl
 obtain ⟨x0, x1, x2, x3, x4⟩ := x
 obtain ⟨y0, y1, y2, y3, y4⟩ := y
 have he : ∀ b : Bool, (b = true ↔ (⟨x0, x1, x2, x3, x4⟩ : Bd) = ⟨y0, y1, y2, y3, y4⟩) → Result.ok b W = Result.ok (decide ((⟨x0, x1, x2, x3, x4⟩ : Bd) = ⟨y0, y1, y2, y3, y4⟩)) W := fun b h => congrArg (fun b => Result.ok b W) (by rw [Bool.eq_iff_iff, decide_eq_true_iff]; exact h)
 simp only [Bd.cells]
 rw [run_equalIn_agg (d := 9999) (ht := hf) (hp := hp)]
 unfold Program.fieldsOf
 rw [hu]
 simp only [Op.eqFields]
 go_simp
 by_cases h0 : x0.toList = y0.toList
 rotate_left
 · rw [if_neg h0]
   exact he false ⟨fun h => (by cases h), fun h => absurd (congrArg (fun z : Bd => z.name.toList) h) h0⟩
 rw [if_pos h0]
 by_cases h1 : x1 = y1
 rotate_left
 · rw [if_neg h1]
   exact he false ⟨fun h => (by cases h), fun h => absurd (congrArg (fun z : Bd => z.k) h) h1⟩
 rw [if_pos h1]
 by_cases h2 : x2 = y2
 rotate_left
 · rw [if_neg h2]
   exact he false ⟨fun h => (by cases h), fun h => absurd (congrArg (fun z : Bd => z.n) h) h2⟩
 rw [if_pos h2]
 by_cases h3 : x3 = y3
 rotate_left
 · rw [if_neg h3]
   exact he false ⟨fun h => (by cases h), fun h => absurd (congrArg (fun z : Bd => z.b) h) h3⟩
 rw [if_pos h3]
 by_cases h4 : x4.toList = y4.toList
 rotate_left
 · rw [if_neg h4]
   exact he false ⟨fun h => (by cases h), fun h => absurd (congrArg (fun z : Bd => z.s.toList) h) h4⟩
 rw [if_pos h4]
 obtain rfl := bytes_eq (by simpa [ByteArray.toList_eq] using h0)
 obtain rfl := h1
 obtain rfl := h2
 obtain rfl := h3
 obtain rfl := bytes_eq (by simpa [ByteArray.toList_eq] using h4)
 exact he true ⟨fun _ => rfl, fun _ => rfl⟩
theorem Bd.eql (x y : Bd) (W : World) : (binOp .eql 51 (.agg x.cells.toArray) (.agg y.cells.toArray)).run Tryz.prog W = .ok (.bool (decide (x = y))) W := by
 rw [run_eql_struct, Bd.eqIn, Result.andThen_ok]
theorem Bd.neq (x y : Bd) (W : World) : (binOp .neq 51 (.agg x.cells.toArray) (.agg y.cells.toArray)).run Tryz.prog W = .ok (.bool (!decide (x = y))) W := by
 rw [run_neq_struct, Bd.eqIn, Result.andThen_ok]
structure Em where
 id : ByteArray
 nm : ByteArray
 kind : Int
 inn : ByteArray
 dflt : ByteArray
 att : ByteArray
 ev : Int
 ref : ByteArray
 key : ByteArray
 ticks : Int
 tries : Int
deriving DecidableEq
def Em.cells (x : Em) : List Value := [.string x.id, .string x.nm, .int .u8 x.kind, .string x.inn, .string x.dflt, .string x.att, .int .u8 x.ev, .string x.ref, .string x.key, .int .i64 x.ticks, .int .i64 x.tries]
theorem Em.eqIn (x y : Em) (W : World) : (Op.equalIn 10000 36 (.agg x.cells.toArray) (.agg y.cells.toArray)).run Tryz.prog W = .ok (decide (x = y)) W := by
 have hu := Tryz.underlying36
 have hf : Tryz.prog.underlying 36 = some (.struct (Tryz.prog.fieldsOf 36)) := by
   unfold Program.fieldsOf
   rw [hu]
 have hp : Tryz.prog.stoodInHeld 36 = false := by kernel_rfl
 obtain ⟨x0, x1, x2, x3, x4, x5, x6, x7, x8, x9, x10⟩ := x
 obtain ⟨y0, y1, y2, y3, y4, y5, y6, y7, y8, y9, y10⟩ := y
 have he : ∀ b : Bool, (b = true ↔ (⟨x0, x1, x2, x3, x4, x5, x6, x7, x8, x9, x10⟩ : Em) = ⟨y0, y1, y2, y3, y4, y5, y6, y7, y8, y9, y10⟩) → Result.ok b W = Result.ok (decide ((⟨x0, x1, x2, x3, x4, x5, x6, x7, x8, x9, x10⟩ : Em) = ⟨y0, y1, y2, y3, y4, y5, y6, y7, y8, y9, y10⟩)) W := fun b h => congrArg (fun b => Result.ok b W) (by rw [Bool.eq_iff_iff, decide_eq_true_iff]; exact h)
 simp only [Em.cells]
 rw [run_equalIn_agg (d := 9999) (ht := hf) (hp := hp)]
 unfold Program.fieldsOf
 rw [hu]
 simp only [Op.eqFields]
 go_simp
 by_cases h0 : x0.toList = y0.toList
 rotate_left
 · rw [if_neg h0]
   exact he false ⟨fun h => (by cases h), fun h => absurd (congrArg (fun z : Em => z.id.toList) h) h0⟩
 rw [if_pos h0]
 by_cases h1 : x1.toList = y1.toList
 rotate_left
 · rw [if_neg h1]
   exact he false ⟨fun h => (by cases h), fun h => absurd (congrArg (fun z : Em => z.nm.toList) h) h1⟩
 rw [if_pos h1]
 by_cases h2 : x2 = y2
 rotate_left
 · rw [if_neg h2]
   exact he false ⟨fun h => (by cases h), fun h => absurd (congrArg (fun z : Em => z.kind) h) h2⟩
 rw [if_pos h2]
 by_cases h3 : x3.toList = y3.toList
 rotate_left
 · rw [if_neg h3]
   exact he false ⟨fun h => (by cases h), fun h => absurd (congrArg (fun z : Em => z.inn.toList) h) h3⟩
 rw [if_pos h3]
 by_cases h4 : x4.toList = y4.toList
 rotate_left
 · rw [if_neg h4]
   exact he false ⟨fun h => (by cases h), fun h => absurd (congrArg (fun z : Em => z.dflt.toList) h) h4⟩
 rw [if_pos h4]
 by_cases h5 : x5.toList = y5.toList
 rotate_left
 · rw [if_neg h5]
   exact he false ⟨fun h => (by cases h), fun h => absurd (congrArg (fun z : Em => z.att.toList) h) h5⟩
 rw [if_pos h5]
 by_cases h6 : x6 = y6
 rotate_left
 · rw [if_neg h6]
   exact he false ⟨fun h => (by cases h), fun h => absurd (congrArg (fun z : Em => z.ev) h) h6⟩
 rw [if_pos h6]
 by_cases h7 : x7.toList = y7.toList
 rotate_left
 · rw [if_neg h7]
   exact he false ⟨fun h => (by cases h), fun h => absurd (congrArg (fun z : Em => z.ref.toList) h) h7⟩
 rw [if_pos h7]
 by_cases h8 : x8.toList = y8.toList
 rotate_left
 · rw [if_neg h8]
   exact he false ⟨fun h => (by cases h), fun h => absurd (congrArg (fun z : Em => z.key.toList) h) h8⟩
 rw [if_pos h8]
 by_cases h9 : x9 = y9
 rotate_left
 · rw [if_neg h9]
   exact he false ⟨fun h => (by cases h), fun h => absurd (congrArg (fun z : Em => z.ticks) h) h9⟩
 rw [if_pos h9]
 by_cases h10 : x10 = y10
 rotate_left
 · rw [if_neg h10]
   exact he false ⟨fun h => (by cases h), fun h => absurd (congrArg (fun z : Em => z.tries) h) h10⟩
 rw [if_pos h10]
 obtain rfl := bytes_eq (by simpa [ByteArray.toList_eq] using h0)
 obtain rfl := bytes_eq (by simpa [ByteArray.toList_eq] using h1)
 obtain rfl := h2
 obtain rfl := bytes_eq (by simpa [ByteArray.toList_eq] using h3)
 obtain rfl := bytes_eq (by simpa [ByteArray.toList_eq] using h4)
 obtain rfl := bytes_eq (by simpa [ByteArray.toList_eq] using h5)
 obtain rfl := h6
 obtain rfl := bytes_eq (by simpa [ByteArray.toList_eq] using h7)
 obtain rfl := bytes_eq (by simpa [ByteArray.toList_eq] using h8)
 obtain rfl := h9
 obtain rfl := h10
 exact he true ⟨fun _ => rfl, fun _ => rfl⟩
theorem Em.eql (x y : Em) (W : World) : (binOp .eql 36 (.agg x.cells.toArray) (.agg y.cells.toArray)).run Tryz.prog W = .ok (.bool (decide (x = y))) W := by
 rw [run_eql_struct, Em.eqIn, Result.andThen_ok]
theorem Em.neq (x y : Em) (W : World) : (binOp .neq 36 (.agg x.cells.toArray) (.agg y.cells.toArray)).run Tryz.prog W = .ok (.bool (!decide (x = y))) W := by
 rw [run_neq_struct, Em.eqIn, Result.andThen_ok]
structure Fw where
 id : ByteArray
 fr : ByteArray
 dst : ByteArray
 cond : ByteArray
deriving DecidableEq
def Fw.cells (x : Fw) : List Value := [.string x.id, .string x.fr, .string x.dst, .string x.cond]
theorem Fw.eqIn (x y : Fw) (W : World) : (Op.equalIn 10000 53 (.agg x.cells.toArray) (.agg y.cells.toArray)).run Tryz.prog W = .ok (decide (x = y)) W := by
 have hu := Tryz.underlying53
 have hf : Tryz.prog.underlying 53 = some (.struct (Tryz.prog.fieldsOf 53)) := by
   unfold Program.fieldsOf
   rw [hu]
 have hp : Tryz.prog.stoodInHeld 53 = false := by kernel_rfl
 obtain ⟨x0, x1, x2, x3⟩ := x
 obtain ⟨y0, y1, y2, y3⟩ := y
 have he : ∀ b : Bool, (b = true ↔ (⟨x0, x1, x2, x3⟩ : Fw) = ⟨y0, y1, y2, y3⟩) → Result.ok b W = Result.ok (decide ((⟨x0, x1, x2, x3⟩ : Fw) = ⟨y0, y1, y2, y3⟩)) W := fun b h => congrArg (fun b => Result.ok b W) (by rw [Bool.eq_iff_iff, decide_eq_true_iff]; exact h)
 simp only [Fw.cells]
 rw [run_equalIn_agg (d := 9999) (ht := hf) (hp := hp)]
 unfold Program.fieldsOf
 rw [hu]
 simp only [Op.eqFields]
 go_simp
 by_cases h0 : x0.toList = y0.toList
 rotate_left
 · rw [if_neg h0]
   exact he false ⟨fun h => (by cases h), fun h => absurd (congrArg (fun z : Fw => z.id.toList) h) h0⟩
 rw [if_pos h0]
 by_cases h1 : x1.toList = y1.toList
 rotate_left
 · rw [if_neg h1]
   exact he false ⟨fun h => (by cases h), fun h => absurd (congrArg (fun z : Fw => z.fr.toList) h) h1⟩
 rw [if_pos h1]
 by_cases h2 : x2.toList = y2.toList
 rotate_left
 · rw [if_neg h2]
   exact he false ⟨fun h => (by cases h), fun h => absurd (congrArg (fun z : Fw => z.dst.toList) h) h2⟩
 rw [if_pos h2]
 by_cases h3 : x3.toList = y3.toList
 rotate_left
 · rw [if_neg h3]
   exact he false ⟨fun h => (by cases h), fun h => absurd (congrArg (fun z : Fw => z.cond.toList) h) h3⟩
 rw [if_pos h3]
 obtain rfl := bytes_eq (by simpa [ByteArray.toList_eq] using h0)
 obtain rfl := bytes_eq (by simpa [ByteArray.toList_eq] using h1)
 obtain rfl := bytes_eq (by simpa [ByteArray.toList_eq] using h2)
 obtain rfl := bytes_eq (by simpa [ByteArray.toList_eq] using h3)
 exact he true ⟨fun _ => rfl, fun _ => rfl⟩
theorem Fw.eql (x y : Fw) (W : World) : (binOp .eql 53 (.agg x.cells.toArray) (.agg y.cells.toArray)).run Tryz.prog W = .ok (.bool (decide (x = y))) W := by
 rw [run_eql_struct, Fw.eqIn, Result.andThen_ok]
theorem Fw.neq (x y : Fw) (W : World) : (binOp .neq 53 (.agg x.cells.toArray) (.agg y.cells.toArray)).run Tryz.prog W = .ok (.bool (!decide (x = y))) W := by
 rw [run_neq_struct, Fw.eqIn, Result.andThen_ok]
end Go.Proofs.YteejphiklpnjhaaGreatDoor
