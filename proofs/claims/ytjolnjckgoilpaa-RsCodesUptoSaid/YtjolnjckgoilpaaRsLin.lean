/-
  Plain facts of shards: lengths, sums of columns.
-/
import Derived.Test.YtjolnjckgoilpaaMPar
set_option linter.unusedVariables false
set_option linter.unusedSimpArgs false
namespace Go.Proofs.Ytjolnjckgoilpaa.Rs
open Go.RowKit Go.Proofs.YtjolnjckgoilpaaW.PrintWords Go.Proofs.YtjolnjckgoilpaaW.PrintLast Go.Proofs.Ytjolnjckgoilpaa.PRa Go.Proofs.Ytjolnjckgoilpaa.Gf
theorem row_sum (l : List (List Int)) : ∀ i, (row l i).length ≤ (l.map List.length).sum := by
  induction l with
  | nil => intro i; simp [row]
  | cons x l ih =>
    intro i
    simp only [List.map_cons, List.sum_cons]
    cases i with
    | zero => simp [row]
    | succ i => have := ih i; simp only [row, List.getD_cons_succ] at this ⊢; omega
theorem few_row {l : List (List Int)} (h : fewB l = true) (i : Nat) : (row l i).length ≤ 4000 := by
  unfold fewB at h
  simp only [Bool.and_eq_true, decide_eq_true_eq] at h
  have := row_sum l i
  omega
theorem sizes_all (m : Nat) : ∀ (l : List (List Int)) (s : Nat), (s = 0 ∨ s = m) → (∀ x ∈ l, x.length = m) → sizesB s l = true := by
  intro l
  induction l with
  | nil => intro s _ _; rfl
  | cons x l ih =>
    intro s hs h
    have hx : x.length = m := h x List.mem_cons_self
    simp only [sizesB]
    rw [ih (max s x.length) (by rcases hs with rfl | rfl <;> omega) (fun y hy => h y (List.mem_cons_of_mem _ hy)), Bool.and_true]
    rcases hs with rfl | rfl
    · simp
    · simp [hx]
theorem mem_row {l : List (List Int)} {x : List Int} (h : x ∈ l) : ∃ i, i < l.length ∧ row l i = x := by
  obtain ⟨i, hi, e⟩ := List.getElem_of_mem h
  exact ⟨i, hi, by simp [row, List.getD, hi, e]⟩
theorem sizes_rows {l : List (List Int)} {m : Nat} (h : ∀ i, i < l.length → (row l i).length = m) : sizesB 0 l = true :=
  sizes_all m l 0 (.inl rfl) (fun x hx => by obtain ⟨i, hi, rfl⟩ := mem_row hx; exact h i hi)
theorem miss_rows {l : List (List Int)} {m : Nat} (hm : 0 < m) (h : ∀ i, i < l.length → (row l i).length = m) : missL l = [] := by
  unfold missL missFrom
  rw [List.map_eq_nil_iff, List.filter_eq_nil_iff]
  intro q hq
  have hq2 : q < l.length := by simpa [List.mem_range'_1] using hq
  have := h q hq2
  simp
  intro e
  rw [e] at this
  simp at this
  omega
/-- The sums of two lists of shards. -/
def sumL (a b : List (List Int)) (m k : Nat) : List (List Int) := (List.range k).map fun i => rowL m fun x => byt a i x ^^^ byt b i x
theorem sx_congr {f g : Nat → Nat} : ∀ n, (∀ k, k < n → f k = g k) → sx n f = sx n g
  | 0, _ => rfl
  | n + 1, h => by
    show sx n f ^^^ f n = sx n g ^^^ g n
    rw [sx_congr n (fun k hk => h k (by omega)), h n (by omega)]
end Go.Proofs.Ytjolnjckgoilpaa.Rs
