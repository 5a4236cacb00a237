/-
  The order of texts: a linear order, and what the model's comparisons, max and min of texts say in its words.
-/
import Derived.Tactics
import Derived.Lib.Strings
import Derived.Sort.Walk0
namespace Go.Proofs.Ytpfkfnphjbgohaa.El
instance : LT ByteArray := ⟨fun a b => Op.bytesLess a.toList b.toList = true⟩
instance : LE ByteArray := ⟨fun a b => ¬ Op.bytesLess b.toList a.toList = true⟩
instance (a b : ByteArray) : Decidable (a < b) := inferInstanceAs (Decidable (Op.bytesLess a.toList b.toList = true))
instance (a b : ByteArray) : Decidable (a ≤ b) := inferInstanceAs (Decidable (¬ Op.bytesLess b.toList a.toList = true))
theorem lt_iff (a b : ByteArray) : a < b ↔ a.data.toList < b.data.toList := by
  show Op.bytesLess a.toList b.toList = true ↔ _
  rw [bytesLess_eq, Lib.toList_data, Lib.toList_data]; simp
theorem le_iff (a b : ByteArray) : a ≤ b ↔ ¬ b.data.toList < a.data.toList := by rw [← lt_iff]; rfl
theorem bytes_ext {a b : ByteArray} (h : a.data.toList = b.data.toList) : a = b := by
  cases a; cases b; simp at h; rw [h]
instance : Std.LawfulOrderLT ByteArray where
  lt_iff a b := by
    rw [lt_iff, le_iff, le_iff]
    constructor
    · intro h; exact ⟨fun g => List.lt_asymm h g, fun g => g h⟩
    · rintro ⟨_, g⟩; exact Classical.not_not.mp g
instance : Std.IsLinearOrder ByteArray where
  le_refl a := by rw [le_iff]; exact List.lt_irrefl _
  le_trans a b c h g := by
    rw [le_iff] at *
    intro k
    exact (List.not_lt.mpr (List.le_trans (List.not_lt.mp h) (List.not_lt.mp g))) k
  le_antisymm a b h g := by
    rw [le_iff] at *
    exact bytes_ext (List.le_antisymm (List.not_lt.mp h) (List.not_lt.mp g))
  le_total a b := by
    rw [le_iff, le_iff]
    rcases List.le_total a.data.toList b.data.toList with h | h
    · left; exact List.not_lt.mpr h
    · right; exact List.not_lt.mpr h
theorem less_true {a b : ByteArray} : Op.bytesLess a.toList b.toList = true ↔ a < b := Iff.rfl
theorem less_false {a b : ByteArray} : Op.bytesLess a.toList b.toList = false ↔ b ≤ a := by
  show _ ↔ ¬ Op.bytesLess a.toList b.toList = true
  simp
theorem eq_true {a b : ByteArray} : (a.toList == b.toList) = true ↔ a = b := by
  rw [beq_iff_eq, Lib.toList_data, Lib.toList_data]
  exact ⟨bytes_ext, fun h => by rw [h]⟩
theorem toList_inj {a b : ByteArray} : a.toList = b.toList ↔ a = b := by
  rw [Lib.toList_data, Lib.toList_data]
  exact ⟨bytes_ext, fun h => by rw [h]⟩
theorem binS_leq (t : TypeId) (a b : ByteArray) : binOp .leq t (.string a) (.string b) = pure (.bool !(Op.bytesLess b.toList a.toList)) := by
  have h : (Op.bytesLess a.toList b.toList || a.toList == b.toList) = !(Op.bytesLess b.toList a.toList) := by
    rw [Bool.eq_iff_iff]
    simp only [Bool.or_eq_true, less_true, eq_true, Bool.not_eq_true', less_false]
    grind
  simp [binOp, Op.stringOp, ← h]
theorem binS_gtr (t : TypeId) (a b : ByteArray) : binOp .gtr t (.string a) (.string b) = pure (.bool (Op.bytesLess b.toList a.toList)) := by
  have h : (!(Op.bytesLess a.toList b.toList || a.toList == b.toList)) = (Op.bytesLess b.toList a.toList) := by
    rw [Bool.eq_iff_iff]
    simp only [less_true, Bool.not_eq_true', Bool.or_eq_false_iff, less_false]
    rw [← Bool.not_eq_true, eq_true]
    grind
  simp [binOp, Op.stringOp, ← h]
theorem binS_geq (t : TypeId) (a b : ByteArray) : binOp .geq t (.string a) (.string b) = pure (.bool !(Op.bytesLess a.toList b.toList)) := by simp [binOp, Op.stringOp]
/-- Go's max and min of two texts. -/
def mxS (a b : ByteArray) : ByteArray := if a < b then b else a
def mnS (a b : ByteArray) : ByteArray := if b < a then b else a
theorem maxS_two (a b : ByteArray) : Builtin.max2 (.string a) (.string b) = pure (.string (mxS a b)) := by
  by_cases h : a < b
  · have h1 : Op.bytesLess a.toList b.toList = true := h
    simp [Builtin.max2, Op.stringOp, asBool, mxS, h, h1]
  · have h1 : Op.bytesLess a.toList b.toList = false := less_false.mpr (by grind)
    simp [Builtin.max2, Op.stringOp, asBool, mxS, h, h1]
theorem minS_two (a b : ByteArray) : Builtin.min2 (.string a) (.string b) = pure (.string (mnS a b)) := by
  by_cases h : b < a
  · have h1 : Op.bytesLess b.toList a.toList = true := h
    have h2 : Op.bytesLess a.toList b.toList = false := less_false.mpr (by grind)
    have h3 : (a.toList == b.toList) = false := by rw [← Bool.not_eq_true, eq_true]; grind
    simp [Builtin.min2, Op.stringOp, asBool, mnS, h, h2, h3]
  · have h0 : a < b ∨ a = b := by grind
    rcases h0 with h0 | rfl
    · have h1 : Op.bytesLess a.toList b.toList = true := h0
      simp [Builtin.min2, Op.stringOp, asBool, mnS, h, h1]
    · simp [Builtin.min2, Op.stringOp, asBool, mnS]
end Go.Proofs.Ytpfkfnphjbgohaa.El
