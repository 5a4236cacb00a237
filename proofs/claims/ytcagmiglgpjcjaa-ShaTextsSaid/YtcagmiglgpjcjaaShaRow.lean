/-
  Arrays of whole words, by value, made, boxed, read and written as one row: steps of a walk that do not open the row.
-/
import Derived.Test.YtcagmiglgpjcjaaPSax0
import Derived.Deep.WholeRow
import Derived.Deep.MidRow
import Derived.Laws.CopyRow
set_option linter.unusedVariables false
set_option linter.unusedSimpArgs false
namespace Go.Proofs.Ytcagmiglgpjcjaa.Sh
open Go.RowKit Go.Proofs.YtcagmiglgpjcjaaW.PrintWords Go.Proofs.YtcagmiglgpjcjaaW.PrintLast

/-- A row of 32-bit words. -/
def u32s (l : List Int) : Array Value := (l.map (Value.int .u32)).toArray
theorem u32s_size (l : List Int) : (u32s l).size = l.length := by simp [u32s]
theorem u32s_get (l : List Int) (j : Nat) : (u32s l)[j]? = l[j]?.map (Value.int .u32) := by simp [u32s]
theorem u32s_set (l : List Int) (j : Nat) (x : Int) : (u32s l).setIfInBounds j (.int .u32 x) = u32s (l.set j x) := by
  apply Array.ext_getElem?
  intro i
  simp only [u32s, Array.getElem?_setIfInBounds, List.getElem?_toArray, List.getElem?_map, List.getElem?_set, List.size_toArray, List.length_map]
  by_cases h : j = i
  · subst h
    by_cases h2 : j < l.length <;> simp [h2]
  · simp [h]
theorem u32s_one (l : List Int) : (u32s l).all (·.oneCell') = true := by
  rw [Array.all_eq_true_iff_forall_mem]
  intro v hv
  simp only [u32s, List.mem_toArray, List.mem_map] at hv
  obtain ⟨x, _, rfl⟩ := hv
  rfl
theorem heap_lt {w : World} {g : Nat} {o : Obj} (h : w.heap[g]? = some o) : g < w.heap.size := (Array.getElem?_eq_some_iff.1 h).1
theorem blkset {w : World} {g : Nat} {t : TypeId} {cs : Array Value} (h : w.heap[g]? = some (.cells cs t (0, 0))) (i : Nat) (u : Value) : (w.setCell ⟨g, i, none⟩ u).heap[g]? = some (.cells (cs.setIfInBounds i u) t (0, 0)) := by
  simp [World.setCell, Array.getElem?_modify, h]
theorem blkfar {w : World} {g : Nat} {o : Obj} (h : w.heap[g]? = some o) {p : Addr} (hp : g ≠ p.block) (u : Value) : (w.setCell p u).heap[g]? = some o := (Below.heap_setCell w p u g hp).trans h
theorem blkalloc {w : World} {g : Nat} {o : Obj} (h : w.heap[g]? = some o) (o' : Obj) : (w.alloc o').heap[g]? = some o := (Below.heap_alloc w o' g (heap_lt h)).trans h
theorem size_setCell (w : World) (p : Addr) (u : Value) : (w.setCell p u).heap.size = w.heap.size := by simp [World.setCell]
theorem only_drewN {a w : World} {row : Option Nat} (h : a.grownBy w row) (n : Nat) : a.grownBy (w.drewN n) row := ⟨h.os, h.tape, h.output, h.size, h.block⟩
theorem only_drew {a w : World} {row : Option Nat} (h : a.grownBy w row) : a.grownBy w.drew row := ⟨h.os, h.tape, h.output, h.size, h.block⟩
theorem only_set {a w : World} {g : Nat} (h : a.grownBy w (some g)) (j : Nat) (u : Value) : a.grownBy (w.setCell ⟨g, j, none⟩ u) (some g) :=
  ⟨h.os, h.tape, h.output, by simpa [World.setCell] using h.size, fun i hi hne => (Below.heap_setCell w ⟨g, j, none⟩ u i (by
    rintro rfl
    exact hne rfl)).trans (h.block i hi hne)⟩
/-- A block that was made later may be written. -/
theorem only_set_new {a w : World} {r : Option Nat} {g : Nat} (h : a.grownBy w r) (hg : a.heap.size ≤ g) (j : Nat) (u : Value) : a.grownBy (w.setCell ⟨g, j, none⟩ u) r :=
  ⟨h.os, h.tape, h.output, by simpa [World.setCell] using h.size, fun i hi hne => (Below.heap_setCell w ⟨g, j, none⟩ u i (by show i ≠ g; omega)).trans (h.block i hi hne)⟩
theorem only_row_new {a w : World} {r : Option Nat} {g : Nat} (h : a.grownBy w r) (hg : a.heap.size ≤ g) (cs : Array Value) : a.grownBy (w.setRow g cs) r :=
  ⟨h.os, h.tape, h.output, by simpa [World.setRow] using h.size, fun i hi hne => (setRow_other w g i cs (by omega)).trans (h.block i hi hne)⟩
theorem only_alloc {a w : World} {r : Option Nat} (h : a.grownBy w r) (o : Obj) : a.grownBy (w.alloc o) r :=
  ⟨h.os, h.tape, h.output, by have := h.size; show _ ≤ (w.heap.push o).size; rw [Array.size_push]; omega, fun i hi hne => (Below.heap_alloc w o i (by have := h.size; omega)).trans (h.block i hi hne)⟩

section
variable {P : Program} {ops : Array Oper} {rest : List Oper} {o : Oper} {a : Act} {Q : Exit → Act → World → Prop}
theorem step_alloc {w : World} (hgd : o.guard = none) (t : TypeId) (ho : o.op = .alloc t) (c : Array Value) (hz : ∀ w, (zeroValue t).run P w = .ok (.agg c) w)
    (h : wpList P ops Q rest (a.put o.dst (.pointer (some ⟨w.heap.size, 0, none⟩))) (w.alloc (.cells c t))) : wpList P ops Q (o :: rest) a w :=
  Kd.event_run hgd (by unfold execOp; rw [ho]; simp [Instr.alloc, hz, newVar, newRow, Value.cells]) h
theorem step_box {w : World} (hgd : o.guard = none) (t : TypeId) (x : Operand) (ho : o.op = .box t x) (c : Array Value) (hx : a.eval x = .agg c)
    (h : wpList P ops Q rest (a.put o.dst (.pointer (some ⟨w.heap.size, 0, none⟩))) (w.alloc (.cells c t))) : wpList P ops Q (o :: rest) a w :=
  Kd.event_run hgd (by unfold execOp; rw [ho]; simp [Instr.box, hx, newVar, newRow, Value.cells]) h
end
end Go.Proofs.Ytcagmiglgpjcjaa.Sh
