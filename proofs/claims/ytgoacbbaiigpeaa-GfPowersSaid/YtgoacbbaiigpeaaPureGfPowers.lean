/-
  GfPowers: the program's powers add, its logarithms add (round 255), a power of n and one of -n make 1.
-/
import Derived.Test.YtgoacbbaiigpeaaGaFacts
namespace Go.Proofs.Ytgoacbbaiigpeaa.Pure
open Go.RowKit Go.Proofs.Ytgoacbbaiigpeaa.PGa Go.Proofs.YtgoacbbaiigpeaaW.PrintWords Go.Proofs.YtgoacbbaiigpeaaW.PrintLast Go.Proofs.Ytgoacbbaiigpeaa.GaFacts

/-- The power of g r: g of the exponent's product, below 255. -/
theorem pow_gr (k r : Nat) (n : Int) (hk : 400 ≤ k) : gf_Pow.f k ((GfM.g r : Nat) : Int) n = some (((GfM.g ((r * (n % 255).toNat) % 255) : Nat) : Int), 0) := by
  rw [pow_ok k _ n hk (GfM.g_lt r) (GfM.g_ne_zero r), GfM.P_g, GfM.g_mod]
theorem mod_add (r : Nat) (m n : Int) : (r * (m % 255).toNat + r * (n % 255).toNat) % 255 = (r * ((m + n) % 255).toNat) % 255 := by
  obtain ⟨x, hx⟩ : ∃ x : Nat, m % 255 = x := ⟨(m % 255).toNat, by omega⟩
  obtain ⟨y, hy⟩ : ∃ y : Nat, n % 255 = y := ⟨(n % 255).toNat, by omega⟩
  have hz : (m + n) % 255 = (((x + y) % 255 : Nat) : Int) := by omega
  rw [hx, hy, hz]
  show (r * x + r * y) % 255 = (r * ((x + y) % 255)) % 255
  rw [← Nat.mul_add, Nat.mul_mod, Nat.mul_mod r ((x + y) % 255), Nat.mod_mod]
theorem mod_neg (r : Nat) (n : Int) : (r * (n % 255).toNat + r * ((-n) % 255).toNat) % 255 = 0 := by
  rw [mod_add r n (-n), show n + -n = 0 by omega]
  simp
theorem zero4 : wrap64 (wrap64 (wrap64 ((0 : Int) + 0) + 0) + 0) = 0 := by unfold wrap64; omega
theorem zero3 : wrap64 (wrap64 ((0 : Int) + 0) + 0) = 0 := by unfold wrap64; omega
theorem powers_j1 (k x y z : Nat) (hk : 500 ≤ k) (hx : x < 255) (hy : y < 255) (hz : z < 255) (h : (x + y) % 255 = z) : flintlaw5_GfPowers.j1 k ((GfM.g x : Nat) : Int) ((GfM.g y : Nat) : Int) ((GfM.g z : Nat) : Int) false = some true := by
  obtain ⟨k, rfl⟩ : ∃ m, k = m + 1 := ⟨k - 1, by omega⟩
  simp only [flintlaw5_GfPowers.j1]
  rw [if_neg (by decide), log_ok k x (by omega) hx, log_ok k y (by omega) hy, log_ok k z (by omega) hz]
  simp only [Option.bind_some]
  rw [if_pos zero3, show wrap64 ((x : Int) + y) = x + y by unfold wrap64; omega, Int.tmod_eq_emod_of_nonneg (by omega)]
  simp
  omega
theorem powers_j0 (k r : Nat) (m n : Int) (hk : 510 ≤ k) (hm : -1099511627776 ≤ m ∧ m ≤ 1099511627776) (hn : -1099511627776 ≤ n ∧ n ≤ 1099511627776) : flintlaw5_GfPowers.j0 k ((GfM.g r : Nat) : Int) m n false = some true := by
  obtain ⟨k, rfl⟩ : ∃ m, k = m + 1 := ⟨k - 1, by omega⟩
  simp only [flintlaw5_GfPowers.j0]
  have lt (x : Nat) : x % 255 < 255 := Nat.mod_lt _ (by omega)
  rw [if_neg (by decide), show wrap64 (m + n) = m + n by unfold wrap64; omega, show wrap64 (-n) = -n by unfold wrap64; omega, pow_gr k r m (by omega), pow_gr k r n (by omega), pow_gr k r (m + n) (by omega), pow_gr k r (-n) (by omega)]
  simp only [Option.bind_some]
  rw [if_pos zero4, mul_ok k _ _ (by omega) (GfM.g_lt _) (GfM.g_lt _), mul_ok k _ _ (by omega) (GfM.g_lt _) (GfM.g_lt _), GfM.g_add, GfM.g_add]
  simp only [Option.bind_some]
  have e1 : GfM.g (r * (m % 255).toNat % 255 + r * (n % 255).toNat % 255) = GfM.g (r * ((m + n) % 255).toNat % 255) := by
    rw [← GfM.g_mod, ← Nat.add_mod, mod_add r m n]
  have e2 : GfM.g (r * (n % 255).toNat % 255 + r * (-n % 255).toNat % 255) = 1 := by
    rw [← GfM.g_mod, ← Nat.add_mod, mod_neg r n]
    rfl
  rw [e1, e2, if_pos rfl]
  have h1 : (((1 : Nat) : Int) != 1) = false := by decide
  rw [h1]
  exact powers_j1 k _ _ _ (by omega) (lt _) (lt _) (lt _) (by rw [← Nat.add_mod, mod_add r m n])
theorem GfPowers : flintlaw5_GfPowers.Pure := by
  intro a0 m n h0 _ _
  obtain ⟨a, ha, rfl⟩ := byte h0
  refine ⟨1000, ?_⟩
  have e0 : flintlaw5_GfPowers.j0 1000 (a : Int) m n true = some true := by
    obtain ⟨k, hk⟩ : ∃ k, 1000 = k + 1 := ⟨999, rfl⟩
    rw [hk]
    simp [flintlaw5_GfPowers.j0]
  unfold flintlaw5_GfPowers.f
  rw [known_ok 1000 (by omega)]
  simp only [Option.bind_some, if_true]
  by_cases h : a = 0
  · rw [if_pos (by omega)]; exact e0
  rw [if_neg (by omega)]
  by_cases h1 : m < -1099511627776
  · rw [if_pos h1]; exact e0
  rw [if_neg h1]
  by_cases h2 : m > 1099511627776
  · rw [if_pos h2]; exact e0
  rw [if_neg h2]
  by_cases h3 : n < -1099511627776
  · rw [if_pos h3]; exact e0
  rw [if_neg h3]
  by_cases h4 : n > 1099511627776
  · rw [decide_eq_true h4]; exact e0
  rw [decide_eq_false h4]
  obtain ⟨r, _, rfl⟩ := GfM.has_log a ha h
  exact powers_j0 1000 r m n (by omega) (by omega) (by omega)
end Go.Proofs.Ytgoacbbaiigpeaa.Pure
