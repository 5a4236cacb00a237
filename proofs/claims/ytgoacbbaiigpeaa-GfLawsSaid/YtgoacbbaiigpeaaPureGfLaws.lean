/-
  GfLaws: the field's laws hold of the program's sums and products; quotients undo products; 2 makes every element but 0.
-/
import Derived.Test.YtgoacbbaiigpeaaGaFacts
namespace Go.Proofs.Ytgoacbbaiigpeaa.Pure
open Go.RowKit Go.Proofs.Ytgoacbbaiigpeaa.PGa Go.Proofs.YtgoacbbaiigpeaaW.PrintWords Go.Proofs.YtgoacbbaiigpeaaW.PrintLast Go.Proofs.Ytgoacbbaiigpeaa.GaFacts

theorem M_inv (b : Nat) (hb : b < 256) (h : b ≠ 0) : GfM.M b (GfM.P b 254) = 1 := by
  obtain ⟨n, _, rfl⟩ := GfM.has_log b hb h
  rw [GfM.P_g, GfM.g_add, show n + n * 254 = 0 + 255 * n by omega, GfM.g_period]
  rfl
theorem laws_j1 (k a : Nat) (hk : 500 ≤ k) (ha : a < 256) : flintlaw5_GfLaws.j1 k a = some true := by
  obtain ⟨k, rfl⟩ : ∃ m, k = m + 1 := ⟨k - 1, by omega⟩
  simp only [flintlaw5_GfLaws.j1]
  by_cases h : a = 0
  · rw [if_pos (by omega)]
  · rw [if_neg (by omega)]
    obtain ⟨n, hn, rfl⟩ := GfM.has_log a ha h
    rw [log_ok k n (by omega) hn]
    simp only [Option.bind_some]
    rw [show (2 : Int) = ((2 : Nat) : Int) from rfl, pow_ok k 2 n (by omega) (by omega) (by omega), show ((n : Int) % 255).toNat = n by omega, show (2 : Nat) = GfM.g 1 from rfl, GfM.P_g, Nat.one_mul]
    simp
    omega
theorem laws_j0 (k a b : Nat) (hk : 510 ≤ k) (ha : a < 256) (hb : b < 256) : flintlaw5_GfLaws.j0 k a b false = some true := by
  obtain ⟨k, rfl⟩ : ∃ m, k = m + 1 := ⟨k - 1, by omega⟩
  simp only [flintlaw5_GfLaws.j0]
  rw [if_neg (by decide)]
  by_cases h : b = 0
  · rw [if_pos (by omega)]
    exact laws_j1 k a (by omega) ha
  · rw [if_neg (by omega), mul_ok k a b (by omega) ha hb]
    simp only [Option.bind_some]
    rw [div_ok k _ b (by omega) (GfM.M_lt _ _ ha) hb h, ← GfM.M_assoc a b _ ha hb (GfM.P_lt _ _), M_inv b hb h, GfM.M_one a ha]
    simp
    exact laws_j1 k a (by omega) ha
theorem GfLaws : flintlaw5_GfLaws.Pure := by
  intro a0 a1 a2 h0 h1 h2
  obtain ⟨a, ha, rfl⟩ := byte h0
  obtain ⟨b, hb, rfl⟩ := byte h1
  obtain ⟨c, hc, rfl⟩ := byte h2
  refine ⟨1000, ?_⟩
  have m1 := mul_ok 1000 a 1 (by omega) ha (by omega)
  have m0 := mul_ok 1000 a 0 (by omega) ha (by omega)
  have hab := GfM.M_lt a b ha
  have hac := GfM.M_lt a c ha
  have hbc := GfM.M_lt b c hb
  have hx := GfM.xor_lt b c hb hc
  rw [GfM.M_one a ha] at m1
  rw [GfM.M_zero a ha] at m0
  have m1' : gf_Mul.f 1000 (a : Int) 1 = some (a : Int) := m1
  have m0' : gf_Mul.f 1000 (a : Int) 0 = some 0 := m0
  unfold flintlaw5_GfLaws.f gf_Add.f
  rw [known_ok 1000 (by omega)]
  simp only [Option.bind_some, if_true]
  rw [mul_ok 1000 a b (by omega) ha hb, mul_ok 1000 b a (by omega) hb ha, GfM.M_comm b a hb ha]
  simp only [Option.bind_some, if_true]
  rw [mul_ok 1000 b c (by omega) hb hc]
  simp only [Option.bind_some]
  rw [mul_ok 1000 a _ (by omega) ha hbc, mul_ok 1000 _ c (by omega) hab hc, GfM.M_assoc a b c ha hb hc]
  simp only [Option.bind_some, if_true]
  rw [xor_nat b c hb hc, mul_ok 1000 a _ (by omega) ha hx, mul_ok 1000 a c (by omega) ha hc]
  simp only [Option.bind_some]
  rw [xor_nat _ _ hab hac, GfM.M_xor_right a b c ha hb hc]
  simp only [if_true]
  rw [xor_nat a a ha ha, Nat.xor_self, m1', m0']
  simp
  exact laws_j0 1000 a b (by omega) ha hb
end Go.Proofs.Ytgoacbbaiigpeaa.Pure
