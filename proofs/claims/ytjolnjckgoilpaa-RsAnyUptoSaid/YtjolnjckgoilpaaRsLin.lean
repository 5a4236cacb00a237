/-
  Plain facts of shards: lengths, sums of columns.
-/
import Derived.Test.YtjolnjckgoilpaaMPar
set_option linter.unusedVariables false
set_option linter.unusedSimpArgs false
namespace Go.Proofs.Ytjolnjckgoilpaa.Rs
open Go.RowKit Go.Proofs.YtjolnjckgoilpaaW.PrintWords Go.Proofs.YtjolnjckgoilpaaW.PrintLast Go.Proofs.Ytjolnjckgoilpaa.PRa Go.Proofs.Ytjolnjckgoilpaa.Gf
theorem row_sum (l : List (List Int)) : ∀ i, (row l i).length ≤ (l.map List.length).sum := by
  induction l with
  | nil => intro i; simp [row]
  | cons x l ih =>
    intro i
    simp only [List.map_cons, List.sum_cons]
    cases i with
    | zero => simp [row]
    | succ i => have := ih i; simp only [row, List.getD_cons_succ] at this ⊢; omega
theorem few_row {l : List (List Int)} (h : fewB l = true) (i : Nat) : (row l i).length ≤ 4000 := by
  unfold fewB at h
  simp only [Bool.and_eq_true, decide_eq_true_eq] at h
  have := row_sum l i
  omega
theorem few_len {l : List (List Int)} (h : fewB l = true) : l.length ≤ 40 := by
  unfold fewB at h
  simp only [Bool.and_eq_true, decide_eq_true_eq] at h
  exact h.1
theorem sizes_all (m : Nat) : ∀ (l : List (List Int)) (s : Nat), (s = 0 ∨ s = m) → (∀ x ∈ l, x.length = m) → sizesB s l = true := by
  intro l
  induction l with
  | nil => intro s _ _; rfl
  | cons x l ih =>
    intro s hs h
    have hx : x.length = m := h x List.mem_cons_self
    simp only [sizesB]
    rw [ih (max s x.length) (by rcases hs with rfl | rfl <;> omega) (fun y hy => h y (List.mem_cons_of_mem _ hy)), Bool.and_true]
    rcases hs with rfl | rfl
    · simp
    · simp [hx]
theorem mem_row {l : List (List Int)} {x : List Int} (h : x ∈ l) : ∃ i, i < l.length ∧ row l i = x := by
  obtain ⟨i, hi, e⟩ := List.getElem_of_mem h
  exact ⟨i, hi, by simp [row, List.getD, hi, e]⟩
theorem sizes_rows {l : List (List Int)} {m : Nat} (h : ∀ i, i < l.length → (row l i).length = m) : sizesB 0 l = true :=
  sizes_all m l 0 (.inl rfl) (fun x hx => by obtain ⟨i, hi, rfl⟩ := mem_row hx; exact h i hi)
theorem miss_rows {l : List (List Int)} {m : Nat} (hm : 0 < m) (h : ∀ i, i < l.length → (row l i).length = m) : missL l = [] := by
  unfold missL missFrom
  rw [List.map_eq_nil_iff, List.filter_eq_nil_iff]
  intro q hq
  have hq2 : q < l.length := by simpa [List.mem_range'_1] using hq
  have := h q hq2
  simp
  intro e
  rw [e] at this
  simp at this
  omega
/-- The sums of two lists of shards. -/
def sumL (a b : List (List Int)) (m k : Nat) : List (List Int) := (List.range k).map fun i => rowL m fun x => byt a i x ^^^ byt b i x
theorem sumL_succ (a b : List (List Int)) (m k : Nat) : sumL a b m (k + 1) = sumL a b m k ++ [rowL m fun x => byt a k x ^^^ byt b k x] := by simp [sumL, List.range_succ]
theorem sumL_length (a b : List (List Int)) (m k : Nat) : (sumL a b m k).length = k := by simp [sumL]
theorem sumL_row {a b : List (List Int)} {m k i : Nat} (h : i < k) : row (sumL a b m k) i = rowL m fun x => byt a i x ^^^ byt b i x := by simp [row, sumL, List.getD, h]
theorem byt_rowL {m x : Nat} {f : Nat → Nat} (h : x < m) : ((rowL m f).getD x 0).toNat = f x := by simp [rowL, List.getD, h]
theorem sumL_byt {a b : List (List Int)} {m k i x : Nat} (h : i < k) (hx : x < m) : byt (sumL a b m k) i x = byt a i x ^^^ byt b i x := by
  unfold byt
  rw [sumL_row h]
  exact byt_rowL hx
theorem sumL_ok {a b : List (List Int)} (ha : okB a = true) (hb : okB b = true) (m k : Nat) : okB (sumL a b m k) = true := by
  unfold okB sumL
  simp only [List.all_map, List.all_eq_true, List.mem_range, Function.comp]
  intro i _ x hx
  simp only [rowL, List.mem_map, List.mem_range] at hx
  obtain ⟨q, _, rfl⟩ := hx
  have := GfM.xor_lt _ _ (okB_at ha i q).1 (okB_at hb i q).1
  simp
  omega
theorem sx_congr {f g : Nat → Nat} : ∀ n, (∀ k, k < n → f k = g k) → sx n f = sx n g
  | 0, _ => rfl
  | n + 1, h => by
    show sx n f ^^^ f n = sx n g ^^^ g n
    rw [sx_congr n (fun k hk => h k (by omega)), h n (by omega)]
theorem sx_xor (f g : Nat → Nat) : ∀ n, sx n (fun k => f k ^^^ g k) = sx n f ^^^ sx n g
  | 0 => by simp [sx]
  | n + 1 => by
    show sx n _ ^^^ (f n ^^^ g n) = (sx n f ^^^ f n) ^^^ (sx n g ^^^ g n)
    rw [sx_xor f g n]
    ac_rfl
/-- Parity of sums is the sum of parities. -/
theorem tcol_sum {a b : List (List Int)} (ha : okB a = true) (hb : okB b = true) (r m k x : Nat) (hx : x < m) : tcol (rho r) a k x ^^^ tcol (rho r) b k x = tcol (rho r) (sumL a b m k) k x := by
  unfold tcol
  rw [← sx_xor]
  refine sx_congr k fun q hq => ?_
  unfold rho
  rw [sumL_byt hq hx, GfM.M_xor_right _ _ _ (GfM.g_lt _) (okB_at ha q x).1 (okB_at hb q x).1]
/-- The first parity is the sum of all shards. -/
theorem tcol_first {a : List (List Int)} (ha : okB a = true) (k x : Nat) : tcol (rho 0) a k x = sx k fun q => byt a q x := by
  unfold tcol
  refine sx_congr k fun q hq => ?_
  have h1 : rho 0 q = 1 := by unfold rho; rw [Nat.zero_mul]; rfl
  rw [h1, GfM.M_comm 1 _ (by omega) (okB_at ha q x).1, GfM.M_one _ (okB_at ha q x).1]
end Go.Proofs.Ytjolnjckgoilpaa.Rs
