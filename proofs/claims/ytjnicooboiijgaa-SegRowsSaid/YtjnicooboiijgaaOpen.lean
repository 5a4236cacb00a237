/-
  Arguments that came in, opened as the contracts want them: whole numbers, rows of them, rows of rows; with the bound on what is read.
-/
import Derived.Test.YtjnicooboiijgaaRows
import Derived.Test.YtjnicooboiijgaaWWords
import Derived.WalkKit
import Derived.ProofKit
import Derived.OpenShut
import Derived.ShutString
import Derived.ChangeOld
import Derived.Below
import Derived.JoinedCond
import Derived.Deep.Matrix
set_option linter.unusedVariables false
namespace Go.Proofs.Ytjnicooboiijgaa.Open
open Go.ChangeShapes Go.WideShapes Go.ChangeAt Go.RowKit Go.Deep Go.Proofs.YtjnicooboiijgaaW.PrintWords
open Go.ChangeMaps (open_string shut_string)

theorem one_le {H : Type} (d : DataW H) : 1 ≤ Rows.uptoBulk d := by
  cases d with
  | lit l => cases l <;> simp [Rows.uptoBulk]
  | nil => simp [Rows.uptoBulk]
  | ptr d => simp [Rows.uptoBulk]
  | slice elems spare => simp [Rows.uptoBulk]
  | agg parts => simp [Rows.uptoBulk]
  | iface t d => simp [Rows.uptoBulk]
  | map entries => simp [Rows.uptoBulk]
  | held h => simp [Rows.uptoBulk]
theorem length_le {H : Type} (l : List (DataW H)) : l.length ≤ Rows.uptoBulkAll l := by
  induction l with
  | nil => simp [Rows.uptoBulkAll]
  | cons x r ih => have := one_le x; simp only [Rows.uptoBulkAll, List.length_cons]; omega
theorem lits_length {H : Type} (k : IntKind) (zs : List Int) : (lits (H := H) k zs).length = zs.length := by simp [lits]
section
variable {H : Type} {enc : TypeId × Value → H} {P : Program} {W : World}
/-- The numbers of a row, read. -/
theorem kd_ints {k : IntKind} {a : Addr} {L : Nat} {zs : List Int} (hl : L ≤ zs.length) (hm : zs.length ≤ maxLen) (hc : ∀ i, i < zs.length → W.cell? (a.add i) = some (.int k (zs.getD i 0))) : (Kd.int k).C W (some a) (zs.take L).length (zs.take L) := by
  have e : (zs.take L).length = L := by simp; omega
  refine Kd.C_of_reads (d := (0 : Int)) (h1 := fun _ => rfl) ⟨rfl, by rw [e]; unfold maxLen at hm; omega, fun _ => ⟨a, rfl, fun j hj => ?_⟩⟩
  rw [e] at hj
  rw [hc j (by omega), List.getD_eq_getElem?_getD, List.getD_eq_getElem?_getD, List.getElem?_take_of_lt hj]
theorem kd_nil {k : IntKind} (A : Option Addr) : (Kd.int k).C W A ([] : List Int).length [] := Kd.C_of_reads (d := (0 : Int)) (h1 := fun _ => rfl) ⟨rfl, by simp, fun h => absurd h (Nat.lt_irrefl 0)⟩
theorem ints {t e : TypeId} {k : IntKind} {v : Value} {d : DataW H} {p : List MemPlace} (ht : P.underlying t = some (.slice e)) (he : P.underlying e = some (.int k)) (hc : P.cellsOf e = 1) (hv : ∃ a len cap, v = .slice a len cap)
    (h : DataW.Trod enc P W 0 (fun _ => true) true t v d p) : ∃ (A : Option Addr) (c : Nat) (l : List Int), v = .slice A l.length c ∧ l.length ≤ c ∧ (Kd.int k).C W A l.length l ∧ (∀ x ∈ l, (Lit.int k x).wf = true) ∧ l.length ≤ Rows.uptoBulk d := by
  obtain ⟨a, len, cap, rfl⟩ := hv
  obtain ⟨fuel, hf⟩ := h
  rcases open_ints ht he hc hf with ⟨hcs, hx⟩ | ⟨x, l, c, zs, hcs, _, hl, hm, hz, hx, hcell, hwz⟩
  · simp [Value.cells] at hcs
    obtain ⟨rfl, rfl, rfl⟩ := hcs
    refine ⟨none, 0, [], rfl, Nat.le_refl _, kd_nil _, ?_, Nat.zero_le _⟩
    intro x hx
    cases hx
  · simp [Value.cells] at hcs
    obtain ⟨rfl, rfl, rfl⟩ := hcs
    simp only [if_true] at hz
    simp only [Prod.mk.injEq] at hx
    obtain ⟨rfl, rfl⟩ := hx
    have e : (zs.take len).length = len := by simp; omega
    refine ⟨some x, cap, zs.take len, by rw [e], by rw [e]; exact hl, kd_ints (by omega) (by omega) hcell, fun y hy => hwz y (List.mem_of_mem_take hy), ?_⟩
    have := length_le (lits (H := H) k (zs.take len))
    rw [lits_length] at this
    simp only [Rows.uptoBulk]
    omega
theorem bulk_row {k : IntKind} {A : Option Addr} {L : Nat} {zs : List Int} (h0 : A = none → L = 0) : (zs.take L).length + 1 ≤ Rows.uptoBulk (intRow (H := H) k A L zs) := by
  cases A with
  | none => simp [intRow, Rows.uptoBulk, h0 rfl]
  | some a =>
    have := length_le (lits (H := H) k (zs.take L))
    rw [lits_length] at this
    simp only [intRow, Rows.uptoBulk]
    omega
theorem bulk_rows (f : Nat → DataW H) (g : Nat → Nat) : ∀ (l : List Nat), (∀ r, r ∈ l → g r ≤ Rows.uptoBulk (f r)) → (l.map g).sum ≤ Rows.uptoBulkAll (l.map f)
  | [], _ => by simp [Rows.uptoBulkAll]
  | r :: l, h => by
    have h1 := h r (by simp)
    have h2 := bulk_rows f g l (fun q hq => h q (by simp [hq]))
    simp only [List.map_cons, List.sum_cons, Rows.uptoBulkAll]
    omega
/-- The rows of a matrix, read. -/
theorem rows {t e q : TypeId} {k : IntKind} {v : Value} {d : DataW H} {p : List MemPlace} (ht : P.underlying t = some (.slice e)) (he : P.underlying e = some (.slice q)) (hq : P.underlying q = some (.int k)) (ce : P.cellsOf e = 1) (cq : P.cellsOf q = 1) (hv : ∃ a len cap, v = .slice a len cap)
    (h : DataW.Trod enc P W 0 (fun _ => true) true t v d p) : ∃ (A : Option Addr) (c : Nat) (l : List (List Int)), v = .slice A l.length c ∧ l.length ≤ c ∧ (Kd.slice q (Kd.int k)).C W A l.length l ∧ (∀ r ∈ l, ∀ x ∈ r, (Lit.int k x).wf = true) ∧ (l.map fun r => r.length + 1).sum ≤ Rows.uptoBulk d := by
  obtain ⟨a, len, cap, rfl⟩ := hv
  obtain ⟨fuel, hf⟩ := h
  rcases open_int_rows ht he hq ce cq hf with ⟨hcs, hx⟩ | ⟨a', len', cap', A, L, C, Z, hcs, _, hl, hm, hx, hrows⟩
  · simp [Value.cells] at hcs
    obtain ⟨rfl, rfl, rfl⟩ := hcs
    refine ⟨none, 0, [], rfl, Nat.le_refl _, ⟨rfl, by simp, fun h => absurd h (Nat.lt_irrefl 0)⟩, ?_, Nat.zero_le _⟩
    intro x hx
    cases hx
  · simp [Value.cells] at hcs
    obtain ⟨rfl, rfl, rfl⟩ := hcs
    simp only [Prod.mk.injEq] at hx
    obtain ⟨rfl, rfl⟩ := hx
    have e : ((List.range len).map fun r => (Z r).take (L r)).length = len := by simp
    refine ⟨some a', cap, (List.range len).map fun r => (Z r).take (L r), by rw [e], by rw [e]; exact hl, ⟨rfl, by rw [e]; unfold maxLen at hm; omega, fun _ => ⟨a', rfl, fun j r hj => ?_⟩⟩, fun r hr x hx => ?_, ?_⟩
    · have hjl : j < len := by have := (List.getElem?_eq_some_iff.1 hj).1; rwa [e] at this
      obtain rfl : (Z j).take (L j) = r := by simp [hjl] at hj; exact hj
      obtain ⟨h1, h2, h3, h4, h5, h6, h7⟩ := hrows j (by omega)
      have el : ((Z j).take (L j)).length = L j := by simp; omega
      refine ⟨[.slice (A j) ((Z j).take (L j)).length (C j)], rfl, ⟨A j, C j, rfl, by rw [el]; exact h2, ?_⟩, fun i u hu => ?_⟩
      · cases hA : A j with
        | none =>
          have : Z j = [] := by have := h6 hA; exact List.length_eq_zero_iff.1 (by omega)
          simp only [this, List.take_nil]
          exact kd_nil _
        | some a2 =>
          obtain ⟨_, h8⟩ := h7 a2 hA
          exact kd_ints (by omega) (by omega) (fun i hi => h8 i (by omega))
      · match i, hu with
        | 0, hu =>
          obtain rfl := Option.some.inj hu
          rw [show (Kd.slice q (Kd.int k)).sz = 1 from rfl, show j * 1 + 0 = j by omega, h1, el]
    · obtain ⟨j, hj, rfl⟩ := List.mem_map.1 hr
      obtain ⟨h1, h2, h3, h4, h5, h6, h7⟩ := hrows j (by have := List.mem_range.1 hj; omega)
      exact h5 x (List.mem_of_mem_take hx)
    · have := bulk_rows (fun r => intRow (H := H) k (A r) (L r) (Z r)) (fun r => ((Z r).take (L r)).length + 1) (List.range len) (fun r hr => bulk_row (fun h0 => by
        obtain ⟨h1, h2, h3, h4, h5, h6, h7⟩ := hrows r (by have := List.mem_range.1 hr; omega)
        have := h6 h0
        omega))
      simp only [Rows.uptoBulk, List.map_map]
      simp only [Function.comp_def]
      omega
end
end Go.Proofs.Ytjnicooboiijgaa.Open
