/-
  The rows of a stream. (Plain: no program.)
-/
import Derived.Test.YtjnicooboiijgaaSgUl
set_option linter.unusedVariables false
set_option linter.unusedSimpArgs false
namespace Go.Proofs.Ytjnicooboiijgaa.Sg
open Go.RowKit Go.Proofs.YtjnicooboiijgaaW.PrintWords Go.Proofs.YtjnicooboiijgaaW.PrintLast Go.Proofs.YtjnicooboiijgaaW.PrintMore Go.Proofs.Ytjnicooboiijgaa.PSg Go.Proofs.Ytjnicooboiijgaa.Gf Go.Proofs.Ytjnicooboiijgaa.Rs
theorem chunk_app {S T : List Int} {N i : Nat} (h : (i + 1) * N ≤ S.length) : chunk (S ++ T) N i = chunk S N i := by
  unfold chunk
  rw [Nat.succ_mul] at h
  rw [List.drop_append_of_le_length (by omega), List.take_append_of_le_length (by rw [List.length_drop]; omega)]
theorem chunk_rest {S T : List Int} {N q j : Nat} (h : q * N ≤ S.length) : chunk (S ++ T) N (q + j) = chunk (S.drop (q * N) ++ T) N j := by
  unfold chunk
  rw [show S.drop (q * N) ++ T = (S ++ T).drop (q * N) from (List.drop_append_of_le_length h).symm, List.drop_drop, Nat.add_mul]
theorem rowsP_split {sz seg k N q m : Nat} {S T : List Int} (h : q * N ≤ S.length) : rowsP sz seg 0 k N q S ++ rowsP sz seg q k N m (S.drop (q * N) ++ T) = rowsP sz seg 0 k N (q + m) (S ++ T) := by
  unfold rowsP
  rw [List.range_add, List.map_append]
  congr 1
  · refine List.map_congr_left fun i hi => ?_
    rw [List.mem_range] at hi
    have h1 : (i + 1) * N ≤ q * N := Nat.mul_le_mul_right N hi
    rw [chunk_app (by omega)]
  · rw [List.map_map]
    refine List.map_congr_left fun i hi => ?_
    show _ = rowP sz seg (0 + 1 + (q + i)) k N (chunk (S ++ T) N (q + i))
    rw [chunk_rest h, show 0 + 1 + (q + i) = q + 1 + i by omega]
theorem len_div {S T : List Int} {N : Nat} (hN : 0 < N) : (S ++ T).length / N = S.length / N + (S.length % N + T.length) / N := by
  have h := Nat.div_add_mod S.length N
  rw [List.length_append]
  conv => lhs; rw [← h]
  rw [Nat.add_assoc, Nat.mul_comm, Nat.add_comm, Nat.add_mul_div_right _ _ hN, Nat.add_comm]
theorem rows_add {sz seg k N : Nat} {S T : List Int} (hN : 0 < N) : rowsP sz seg 0 k N (S.length / N) S ++ rowsP sz seg (S.length / N) k N ((S.length % N + T.length) / N) (S.drop (S.length / N * N) ++ T) = rowsP sz seg 0 k N ((S ++ T).length / N) (S ++ T) := by
  rw [rowsP_split (Nat.div_mul_le_self _ _), len_div hN]
theorem rest_add {N : Nat} {S T : List Int} (hN : 0 < N) : (S.drop (S.length / N * N) ++ T).drop ((S.length % N + T.length) / N * N) = (S ++ T).drop ((S ++ T).length / N * N) := by
  rw [show S.drop (S.length / N * N) ++ T = (S ++ T).drop (S.length / N * N) from (List.drop_append_of_le_length (Nat.div_mul_le_self _ _)).symm, List.drop_drop, len_div hN, Nat.add_mul]
theorem rest_len {N : Nat} {S : List Int} : (S.drop (S.length / N * N)).length = S.length % N := by
  rw [List.length_drop]
  have := Nat.div_add_mod S.length N
  rw [Nat.mul_comm] at this
  omega
theorem padL_pad {xs : List Int} {N : Nat} (h : xs.length ≤ N) : padL (padL xs N) N = padL xs N := by
  have h1 := padL_len h
  generalize hp : padL xs N = ys at *
  unfold padL
  rw [h1, Nat.sub_self]
  simp
/-- The stream, filled up to whole rows. -/
def filled (S : List Int) (N : Nat) : List Int := if S.length % N = 0 then S else S ++ List.replicate (N - S.length % N) 0
theorem filled_len {S : List Int} {N : Nat} (hN : 0 < N) : (filled S N).length = (if S.length % N = 0 then S.length / N else S.length / N + 1) * N := by
  have h := Nat.div_add_mod S.length N
  have h2 := Nat.mod_lt S.length hN
  unfold filled
  by_cases hz : S.length % N = 0
  · rw [if_pos hz, if_pos hz, Nat.mul_comm]; omega
  · rw [if_neg hz, if_neg hz, List.length_append, List.length_replicate, Nat.succ_mul, Nat.mul_comm]; omega
theorem rows_pad {sz seg k N : Nat} {S : List Int} (hN : 0 < N) (hz : S.length % N ≠ 0) : rowsP sz seg 0 k N (S.length / N) S ++ [rowP sz seg (S.length / N + 1) k N (S.drop (S.length / N * N))] = rowsP sz seg 0 k N (S.length / N + 1) (filled S N) := by
  have h2 := Nat.mod_lt S.length hN
  have hr := rest_len (S := S) (N := N)
  unfold filled
  rw [if_neg hz, ← rowsP_split (m := 1) (Nat.div_mul_le_self _ _)]
  congr 1
  have hlen : (S.drop (S.length / N * N) ++ List.replicate (N - S.length % N) 0).length = N := by rw [List.length_append, List.length_replicate, hr]; omega
  have e : chunk (S.drop (S.length / N * N) ++ List.replicate (N - S.length % N) 0) N 0 = padL (S.drop (S.length / N * N)) N := by
    unfold chunk
    rw [Nat.zero_mul, List.drop_zero, List.take_of_length_le (by omega)]
    unfold padL
    rw [hr]
  show [_] = [rowP sz seg (S.length / N + 1 + 0) k N _]
  rw [e]
  unfold rowP
  rw [padL_pad (by rw [hr]; omega)]
theorem chunk_slice {xs : List Int} {N i : Nat} : chunk xs N i = (xs.drop (i * N)).take N := rfl
/-- Where the blobs begin (or that they were not taken). -/
structure AtOk (S : List Int) (B : List (List Int)) (ats : List Int) : Prop where
  le : ats.length ≤ B.length
  at_ : ∀ j, j < ats.length → ats.getD j 0 = -1 ∨ ∃ a : Nat, ats.getD j 0 = a ∧ 0 < (Gf.row B j).length ∧ a + (Gf.row B j).length ≤ S.length ∧ (S.drop a).take (Gf.row B j).length = Gf.row B j
theorem AtOk.nil (S : List Int) (B : List (List Int)) : AtOk S B [] := ⟨Nat.zero_le _, fun j h => absurd h (Nat.not_lt_zero _)⟩
theorem AtOk.app {S : List Int} {B : List (List Int)} {ats : List Int} (h : AtOk S B ats) (T : List Int) : AtOk (S ++ T) B ats :=
  ⟨h.le, fun j hj => (h.at_ j hj).imp id fun ⟨a, h1, h0, h2, h3⟩ => ⟨a, h1, h0, by rw [List.length_append]; omega, by
    rw [List.drop_append_of_le_length (by omega), List.take_append_of_le_length (by rw [List.length_drop]; omega)]; exact h3⟩⟩
theorem getD_snoc {α : Type} {l : List α} {x d : α} {j : Nat} : (l ++ [x]).getD j d = if j < l.length then l.getD j d else if j = l.length then x else d := by
  rw [List.getD_eq_getElem?_getD]
  by_cases h : j < l.length
  · rw [if_pos h, List.getElem?_append_left h, List.getD_eq_getElem?_getD]
  · rw [if_neg h, List.getElem?_append_right (by omega)]
    by_cases h2 : j = l.length
    · rw [if_pos h2, h2, Nat.sub_self]; rfl
    · rw [if_neg h2, show j - l.length = (j - l.length - 1) + 1 by omega]; rfl
theorem AtOk.none {S : List Int} {B : List (List Int)} {ats : List Int} (h : AtOk S B ats) (hi : ats.length < B.length) : AtOk S B (ats ++ [-1]) :=
  ⟨by rw [List.length_append, List.length_singleton]; omega, fun j hj => by
    rw [List.length_append, List.length_singleton] at hj
    rw [getD_snoc]
    by_cases h1 : j < ats.length
    · rw [if_pos h1]; exact h.at_ j h1
    · rw [if_neg h1, if_pos (by omega)]; exact .inl rfl⟩
theorem AtOk.some {S : List Int} {B : List (List Int)} {ats : List Int} (h : AtOk S B ats) (hi : ats.length < B.length) (h0 : 0 < (Gf.row B ats.length).length) : AtOk (S ++ Gf.row B ats.length) B (ats ++ [(S.length : Int)]) :=
  ⟨by rw [List.length_append, List.length_singleton]; omega, fun j hj => by
    rw [List.length_append, List.length_singleton] at hj
    rw [getD_snoc]
    by_cases h1 : j < ats.length
    · rw [if_pos h1]; exact (h.app _).at_ j h1
    · rw [if_neg h1, if_pos (by omega)]
      obtain rfl : j = ats.length := by omega
      refine .inr ⟨S.length, rfl, h0, by rw [List.length_append]; exact Nat.le_refl _, ?_⟩
      rw [List.drop_left, List.take_length]⟩
/-- How many bytes the first blobs have. -/
def sumTo (B : List (List Int)) : Nat → Nat
  | 0 => 0
  | t + 1 => sumTo B t + (Gf.row B t).length
theorem sumTo_mono (B : List (List Int)) {t u : Nat} (h : t ≤ u) : sumTo B t ≤ sumTo B u := by
  induction u with
  | zero => obtain rfl : t = 0 := by omega
            exact Nat.le_refl _
  | succ u ih =>
    rcases Nat.lt_or_ge t (u + 1) with h1 | h1
    · have := ih (by omega); show _ ≤ sumTo B u + _; omega
    · obtain rfl : t = u + 1 := by omega
      exact Nat.le_refl _
theorem sumTo_sum (B : List (List Int)) : ∀ t, t ≤ B.length → sumTo B t + t = ((B.take t).map fun r => r.length + 1).sum
  | 0, _ => rfl
  | t + 1, h => by
    have ih := sumTo_sum B t (by omega)
    rw [List.take_succ_eq_append_getElem (by omega), List.map_append, List.sum_append, ← ih]
    show sumTo B t + (Gf.row B t).length + (t + 1) = _
    have : Gf.row B t = B[t] := by simp [Gf.row, List.getD, show t < B.length by omega]
    rw [this]
    simp
    omega
theorem sumTo_le (B : List (List Int)) (t : Nat) (h : t ≤ B.length) : sumTo B t ≤ (B.map fun r => r.length + 1).sum := by
  have h1 := sumTo_sum B B.length (Nat.le_refl _)
  rw [List.take_length] at h1
  have := sumTo_mono B h
  omega
end Go.Proofs.Ytjnicooboiijgaa.Sg
