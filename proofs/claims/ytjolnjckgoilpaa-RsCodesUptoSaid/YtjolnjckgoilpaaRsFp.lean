/-
  RsFinds, the plain law: shards with their parity fit; with one other byte they do not.
-/
import Derived.Test.YtjolnjckgoilpaaMHd
set_option linter.unusedVariables false
set_option linter.unusedSimpArgs false
namespace Go.Proofs.Ytjolnjckgoilpaa.Rs
open Go.RowKit Go.Proofs.YtjolnjckgoilpaaW.PrintWords Go.Proofs.YtjolnjckgoilpaaW.PrintLast Go.Proofs.Ytjolnjckgoilpaa.PRa Go.Proofs.Ytjolnjckgoilpaa.Gf
def allL (a : List (List Int)) (k m : Nat) : List (List Int) := a ++ [rowL m (tcol (rho 0) a k), rowL m (tcol (rho 1) a k)]
theorem allL_row {a : List (List Int)} {k m i : Nat} (ha : a.length = k) (hi : i < k) : row (allL a k m) i = row a i := by
  unfold row allL
  rw [List.getD_eq_getElem?_getD, List.getElem?_append_left (by omega), List.getD_eq_getElem?_getD]
theorem allL_row0 {a : List (List Int)} {k m : Nat} (ha : a.length = k) : row (allL a k m) k = rowL m (tcol (rho 0) a k) := by
  unfold row allL
  rw [List.getD_eq_getElem?_getD, List.getElem?_append_right (by omega), ha]
  simp
theorem allL_row1 {a : List (List Int)} {k m : Nat} (ha : a.length = k) : row (allL a k m) (k + 1) = rowL m (tcol (rho 1) a k) := by
  unfold row allL
  rw [List.getD_eq_getElem?_getD, List.getElem?_append_right (by omega), ha]
  simp
theorem rowL_ok {m : Nat} {f : Nat → Nat} (h : ∀ x, f x < 256) : (rowL m f).all (fun x => decide (0 ≤ x) && decide (x < 256)) = true := by
  rw [List.all_eq_true]
  intro x hx
  simp only [rowL, List.mem_map, List.mem_range] at hx
  obtain ⟨q, _, rfl⟩ := hx
  have := h q
  simp
  omega
theorem rho_lt (r i : Nat) : rho r i < 256 := GfM.g_lt _
theorem allL_ok {a : List (List Int)} {k m : Nat} (h : okB a = true) : okB (allL a k m) = true := by
  unfold okB at h ⊢
  unfold allL
  rw [List.all_append, h, Bool.true_and]
  simp only [List.all_cons, List.all_nil, Bool.and_true]
  rw [rowL_ok (tcol_lt (rho_lt 0) k), rowL_ok (tcol_lt (rho_lt 1) k)]
  rfl
theorem allL_len {a : List (List Int)} {k m : Nat} (ha : a.length = k) : (allL a k m).length = k + 2 := by simp [allL, ha]
theorem allL_lens {a : List (List Int)} {k m : Nat} (ha : a.length = k) (hm : ∀ i, i < k → (row a i).length = m) : ∀ i, i < k + 2 → (row (allL a k m) i).length = m := fun i hi => by
  rcases Nat.lt_or_ge i k with h | h
  · rw [allL_row ha h]; exact hm i h
  · rcases Nat.eq_or_lt_of_le h with e | e
    · subst e; rw [allL_row0 ha]; exact rowL_length _ _
    · obtain rfl : i = k + 1 := by omega
      rw [allL_row1 ha]; exact rowL_length _ _
/-- The list with one other byte. -/
def putL (l : List (List Int)) (i j v : Nat) : List (List Int) := l.set i ((row l i).set j ((v : Nat) : Int))
end Go.Proofs.Ytjolnjckgoilpaa.Rs
