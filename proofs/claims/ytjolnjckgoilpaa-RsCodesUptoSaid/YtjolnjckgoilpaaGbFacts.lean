/-
  What the reference's printed functions over matrices tell: blank, Unit, Pairs, Right; few; Same.
-/
import Derived.Test.YtjolnjckgoilpaaGaFacts
import Derived.Test.YtjolnjckgoilpaaPRax5
import Derived.Test.YtjolnjckgoilpaaMSt
set_option linter.unusedVariables false
set_option linter.unusedSimpArgs false
namespace Go.Proofs.Ytjolnjckgoilpaa.GbFacts
open Go.RowKit Go.Proofs.Ytjolnjckgoilpaa Go.Proofs.Ytjolnjckgoilpaa.PRa Go.Proofs.Ytjolnjckgoilpaa.PRa Go.Proofs.YtjolnjckgoilpaaW.PrintWords Go.Proofs.YtjolnjckgoilpaaW.PrintLast
open Go.Proofs.Ytjolnjckgoilpaa.Gf (matrix kron rightB row)

theorem matrix_length (n c : Nat) (f : Nat → Nat → Int) : (matrix n c f).length = n := by simp [matrix]
theorem rd_matrix {n c i : Nat} {f : Nat → Nat → Int} (h : i < n) : (matrix n c f).getD i [] = (List.range c).map (f i) := by simp [matrix, List.getD, h]
theorem rd2_matrix {n c i : Nat} {f : Nat → Nat → Int} (h : i < n) : PRa.rd_L1 (matrix n c f) (i : Int) = (List.range c).map (f i) := by
  unfold PRa.rd_L1
  rw [Int.toNat_natCast, rd_matrix h]
theorem map_set {c j : Nat} {f : Nat → Int} {v : Int} : ((List.range c).map f).set j v = (List.range c).map fun q => if q = j then v else f q := by
  apply List.ext_getElem
  · simp
  · intro k h1 h2
    simp at h1
    rw [List.getElem_set]
    simp
    by_cases e : j = k
    · subst e; simp
    · simp [e, Ne.symm e]
theorem matrix_set {n c i j : Nat} {f : Nat → Nat → Int} {v : Int} : (matrix n c f).set i (((List.range c).map (f i)).set j v) = matrix n c fun p q => if p = i ∧ q = j then v else f p q := by
  rw [map_set]
  apply List.ext_getElem
  · simp [matrix]
  · intro k h1 h2
    simp [matrix] at h1
    rw [List.getElem_set]
    simp only [matrix, List.getElem_map, List.getElem_range]
    by_cases e : i = k
    · subst e; simp
    · simp [e, Ne.symm e]
theorem matrix_congr {n c : Nat} {f g : Nat → Nat → Int} (h : ∀ i j, i < n → j < c → f i j = g i j) : matrix n c f = matrix n c g := by
  unfold matrix
  apply List.map_congr_left
  intro i hi
  apply List.map_congr_left
  intro j hj
  exact h i j (by simpa using hi) (by simpa using hj)
theorem matrix_succ (n c : Nat) (f : Nat → Nat → Int) : matrix (n + 1) c f = matrix n c f ++ [(List.range c).map (f n)] := by simp [matrix, List.range_succ]
theorem blank_l0 (n c : Nat) (hn : n ≤ 255) (hc : c ≤ 255) : ∀ (d k i : Nat), d + i = n → d < k → flintref5_blank.l0 k n c (matrix i c fun _ _ => 0) i = some (matrix n c fun _ _ => 0) := by
  intro d
  induction d with
  | zero =>
    intro k i hd hk
    obtain ⟨k, rfl⟩ : ∃ m, k = m + 1 := ⟨k - 1, by omega⟩
    simp only [flintref5_blank.l0]
    rw [if_neg (by omega), show i = n by omega]
  | succ d ih =>
    intro k i hd hk
    obtain ⟨k, rfl⟩ : ∃ m, k = m + 1 := ⟨k - 1, by omega⟩
    simp only [flintref5_blank.l0]
    rw [if_pos (by omega), if_pos (by omega), if_pos (by simp; omega), if_pos (by rw [matrix_length]; omega), wrap_inc _ (by omega) (by omega)]
    have e : matrix i c (fun _ _ => 0) ++ [List.replicate ((c : Int)).toNat 0] = matrix (i + 1) c fun _ _ => 0 := by
      rw [matrix_succ, Int.toNat_natCast]
      congr 2
      apply List.ext_getElem
      · simp
      · intro k h1 h2; simp
    rw [e]
    exact ih k (i + 1) (by omega) (by omega)
theorem blank_ok (k n c : Nat) (hn : n ≤ 255) (hc : c ≤ 255) (hk : 300 ≤ k) : flintref5_blank.f k n c = some (matrix n c fun _ _ => 0) := by
  unfold flintref5_blank.f
  have := blank_l0 n c hn hc n k 0 (by omega) (by omega)
  simpa [matrix] using this
theorem unit_l0 (n : Nat) (hn : n ≤ 255) : ∀ (d k i : Nat), d + i = n → d < k → flintref5_Unit.l0 k n (matrix n n fun a b => if a = b ∧ a < i then 1 else 0) i = some (matrix n n kron, 0) := by
  intro d
  induction d with
  | zero =>
    intro k i hd hk
    obtain ⟨k, rfl⟩ : ∃ m, k = m + 1 := ⟨k - 1, by omega⟩
    simp only [flintref5_Unit.l0]
    rw [if_neg (by omega)]
    congr 2
    exact matrix_congr fun a b ha hb => by
      unfold kron
      by_cases e : a = b
      · simp [e]; omega
      · simp [e]
  | succ d ih =>
    intro k i hd hk
    obtain ⟨k, rfl⟩ : ∃ m, k = m + 1 := ⟨k - 1, by omega⟩
    simp only [flintref5_Unit.l0]
    rw [if_pos (by omega), if_pos (by omega), if_pos (by rw [matrix_length]; omega), rd2_matrix (by omega), if_pos (by simp; omega), wrap_inc _ (by omega) (by omega), Int.toNat_natCast, matrix_set]
    have e : (matrix n n fun p q => if p = i ∧ q = i then (1 : Int) else if p = q ∧ p < i then 1 else 0) = matrix n n fun a b => if a = b ∧ a < i + 1 then 1 else 0 := matrix_congr fun a b ha hb => by
      by_cases e1 : a = b
      · subst e1
        by_cases e2 : a = i
        · subst e2; simp
        · have : a < i ↔ a < i + 1 := by omega
          simp [e2, this]
      · have : ¬ (a = i ∧ b = i) := by omega
        simp [e1, this]
    rw [e]
    exact ih k (i + 1) (by omega) (by omega)
theorem unit_ok (k : Nat) (a0 : Int) (hk : 310 ≤ k) : flintref5_Unit.f k a0 = Gf.unitF a0 := by
  obtain ⟨k, rfl⟩ : ∃ m, k = m + 1 := ⟨k - 1, by omega⟩
  unfold flintref5_Unit.f Gf.unitF
  by_cases h1 : a0 < 1
  · rw [if_pos h1, if_pos h1]; simp [flintref5_Unit.j0]
  · rw [if_neg h1, if_neg h1]
    by_cases h2 : a0 > 255
    · rw [if_pos h2]; simp [flintref5_Unit.j0, h2]
    · rw [if_neg h2]
      obtain ⟨n, rfl⟩ : ∃ n : Nat, a0 = n := ⟨a0.toNat, by omega⟩
      simp only [flintref5_Unit.j0]
      rw [if_neg (by simpa using h2), blank_ok k n n (by omega) (by omega) (by omega)]
      simp only [Option.bind_some]
      have := unit_l0 n (by omega) n k 0 (by omega) (by omega)
      have e : (matrix n n fun a b => if a = b ∧ a < 0 then (1 : Int) else 0) = matrix n n fun _ _ => 0 := matrix_congr fun a b _ _ => by simp
      rw [e] at this
      exact this
theorem pairs_l0 (n : Nat) (hn : n ≤ 255) : ∀ (d k i : Nat), d + i = n → d + 20 < k → flintref5_Pairs.l0 k n (matrix 2 n fun a b => if b < i then ((GfM.g (a * b) : Nat) : Int) else 0) ((GfM.g i : Nat) : Int) i = some (matrix 2 n fun a b => ((GfM.g (a * b) : Nat) : Int), 0) := by
  intro d
  induction d with
  | zero =>
    intro k i hd hk
    obtain ⟨k, rfl⟩ : ∃ m, k = m + 1 := ⟨k - 1, by omega⟩
    simp only [flintref5_Pairs.l0]
    rw [if_neg (by omega)]
    congr 2
    exact matrix_congr fun a b ha hb => by rw [if_pos (by omega)]
  | succ d ih =>
    intro k i hd hk
    obtain ⟨k, rfl⟩ : ∃ m, k = m + 1 := ⟨k - 1, by omega⟩
    simp only [flintref5_Pairs.l0]
    rw [if_pos (by omega), if_pos (by rw [matrix_length]; omega), if_pos (by omega)]
    rw [show PRa.rd_L1 (matrix 2 n fun a b => if b < i then ((GfM.g (a * b) : Nat) : Int) else 0) 0 = _ from rd2_matrix (i := 0) (by omega), if_pos (by simp; omega)]
    simp only [Option.bind_some]
    rw [show (0 : Int).toNat = 0 from rfl, Int.toNat_natCast, matrix_set, matrix_length, if_pos (by omega)]
    rw [show ∀ f, PRa.rd_L1 (matrix 2 n f) 1 = (List.range n).map (f 1) from fun f => rd2_matrix (i := 1) (by omega), if_pos (by simp; omega)]
    rw [show (1 : Int).toNat = 1 from rfl, matrix_set, show (2 : Int) = ((2 : Nat) : Int) from rfl, GaFacts.rmul_ok k (GfM.g i) 2 (by omega) (GfM.g_lt i) (by omega)]
    simp only [Option.bind_some]
    rw [wrap_inc _ (by omega) (by omega)]
    have e : (matrix 2 n fun p q => if p = 1 ∧ q = i then ((GfM.g i : Nat) : Int) else if p = 0 ∧ q = i then 1 else if q < i then ((GfM.g (p * q) : Nat) : Int) else 0) = matrix 2 n fun a b => if b < i + 1 then ((GfM.g (a * b) : Nat) : Int) else 0 := matrix_congr fun a b ha hb => by
      by_cases e1 : b = i
      · have e3 : b < i + 1 := by omega
        match a, ha with
        | 0, _ => simp [e1]; rfl
        | 1, _ => simp [e1]
      · have : b < i ↔ b < i + 1 := by omega
        simp [e1, this]
    rw [e, show GfM.M (GfM.g i) 2 = GfM.g (i + 1) from GfM.g_add i 1]
    exact ih k (i + 1) (by omega) (by omega)
theorem pairs_ok (k : Nat) (a0 : Int) (hk : 320 ≤ k) : flintref5_Pairs.f k a0 = gf_Pairs.f a0 := by
  obtain ⟨k, rfl⟩ : ∃ m, k = m + 1 := ⟨k - 1, by omega⟩
  unfold flintref5_Pairs.f gf_Pairs.f
  by_cases h1 : a0 < 1
  · rw [if_pos h1, if_pos h1]; simp [flintref5_Pairs.j0]
  · rw [if_neg h1, if_neg h1]
    by_cases h2 : a0 > 255
    · rw [if_pos h2]; simp [flintref5_Pairs.j0, h2]
    · rw [if_neg h2]
      obtain ⟨n, rfl⟩ : ∃ n : Nat, a0 = n := ⟨a0.toNat, by omega⟩
      simp only [flintref5_Pairs.j0]
      rw [if_neg (by simpa using h2)]
      have hb := blank_ok k 2 n (by omega) (by omega) (by omega)
      rw [show ((2 : Nat) : Int) = 2 from rfl] at hb
      rw [hb]
      simp only [Option.bind_some]
      have := pairs_l0 n (by omega) n k 0 (by omega) (by omega)
      have e : (matrix 2 n fun a b => if b < 0 then ((GfM.g (a * b) : Nat) : Int) else 0) = matrix 2 n fun _ _ => 0 := matrix_congr fun a b _ _ => by simp
      rw [e] at this
      exact this
theorem right_l0 (l : List (List Int)) (hl : l.length ≤ 255) (h1 : 1 ≤ l.length) : ∀ (d k i : Nat), d + i = l.length → d < k → flintref5_Right.l0 k l i = some (!((List.range' i d).any fun q => decide ((row l q).length ≠ (row l 0).length))) := by
  intro d
  induction d with
  | zero =>
    intro k i hd hk
    obtain ⟨k, rfl⟩ : ∃ m, k = m + 1 := ⟨k - 1, by omega⟩
    simp only [flintref5_Right.l0]
    rw [if_neg (by omega)]
    simp
  | succ d ih =>
    intro k i hd hk
    obtain ⟨k, rfl⟩ : ∃ m, k = m + 1 := ⟨k - 1, by omega⟩
    simp only [flintref5_Right.l0]
    rw [if_pos (by omega), if_pos (by omega), if_pos (by omega), wrap_inc _ (by omega) (by omega)]
    have e1 : PRa.rd_L1 l (i : Int) = row l i := by unfold PRa.rd_L1 row; rw [Int.toNat_natCast]
    have e2 : PRa.rd_L1 l 0 = row l 0 := rfl
    rw [e1, e2, List.range'_succ, List.any_cons]
    by_cases e : (row l i).length = (row l 0).length
    · rw [if_pos (by omega), show ((i : Int) + 1) = ((i + 1 : Nat) : Int) by omega, ih k (i + 1) (by omega) (by omega)]
      simp [e]
    · rw [if_neg (by omega)]
      simp [e]
theorem right_ok (k : Nat) (l : List (List Int)) (hk : 300 ≤ k) : flintref5_Right.f k l = some (rightB l) := by
  obtain ⟨k, rfl⟩ : ∃ m, k = m + 1 := ⟨k - 1, by omega⟩
  unfold flintref5_Right.f rightB
  have e2 : PRa.rd_L1 l 0 = row l 0 := rfl
  rw [e2]
  by_cases h1 : (l.length : Int) < 1
  · rw [if_pos h1]; simp [flintref5_Right.j0]; omega
  · rw [if_neg h1]
    by_cases h2 : (l.length : Int) > 255
    · rw [if_pos h2]; simp [flintref5_Right.j0]; omega
    · rw [if_neg h2, if_pos (by omega)]
      by_cases h3 : ((row l 0).length : Int) < 1
      · rw [if_pos h3]; simp [flintref5_Right.j0]; omega
      · rw [if_neg h3]
        simp only [flintref5_Right.j0]
        by_cases h4 : ((row l 0).length : Int) > 255
        · rw [if_pos (by simpa using h4)]; simp; omega
        · rw [if_neg (by simpa using h4)]
          have := right_l0 l (by omega) (by omega) (l.length - 1) k 1 (by omega) (by omega)
          rw [show ((1 : Nat) : Int) = 1 from rfl] at this
          rw [this, decide_eq_true (show 1 ≤ l.length by omega), decide_eq_true (show l.length ≤ 255 by omega), decide_eq_true (show 1 ≤ (row l 0).length by omega), decide_eq_true (show (row l 0).length ≤ 255 by omega)]
          simp only [Bool.true_and]
          obtain ⟨m, hm⟩ : ∃ m, l.length = m + 1 := ⟨l.length - 1, by omega⟩
          rw [hm, List.range_eq_range', List.range'_succ, List.any_cons]
          simp
end Go.Proofs.Ytjolnjckgoilpaa.GbFacts
