/-
  GfReckons: the program's sums, products, quotients, powers and logarithms of any two bytes and any power are the reference's.
-/
import Derived.Test.YtgoacbbaiigpeaaGaFacts
namespace Go.Proofs.Ytgoacbbaiigpeaa.Pure
open Go.RowKit Go.Proofs.Ytgoacbbaiigpeaa.PGa Go.Proofs.YtgoacbbaiigpeaaW.PrintWords Go.Proofs.YtgoacbbaiigpeaaW.PrintLast Go.Proofs.Ytgoacbbaiigpeaa.GaFacts

theorem div_same (a b : Nat) (ha : a < 256) (hb : b < 256) : ∃ q, gf_Div.f 1000 a b = some q ∧ flintref5_Div.f 1000 a b = some q := by
  by_cases h : b = 0
  · subst h
    exact ⟨(0, 1), rfl, rfl⟩
  · exact ⟨_, div_ok 1000 a b (by omega) ha hb h, rdiv_ok 1000 a b (by omega) ha hb h⟩
theorem pow_same (a : Nat) (n : Int) (ha : a < 256) : ∃ q, gf_Pow.f 1000 a n = some q ∧ flintref5_Pow.f 1000 a n = some q := by
  by_cases h : a = 0
  · subst h
    exact ⟨_, pow_zero_base 1000 n (by omega), rpow_zero 1000 n⟩
  · exact ⟨_, pow_ok 1000 a n (by omega) ha h, rpow_ok 1000 a n (by omega) ha h⟩
theorem log_same (a : Nat) (ha : a < 256) : ∃ q, gf_Log.f 1000 a = some q ∧ flintref5_Log.f 1000 a = some q := by
  by_cases h : a = 0
  · subst h
    exact ⟨(0, 1), rfl, rfl⟩
  · obtain ⟨n, hn, rfl⟩ := GfM.has_log a ha h
    exact ⟨_, log_ok 1000 n (by omega) hn, rlog_ok 1000 n (by omega) hn⟩
theorem GfReckons : flintlaw5_GfReckons.Pure := by
  intro a0 a1 n h0 h1 _
  obtain ⟨a, ha, rfl⟩ := byte h0
  obtain ⟨b, hb, rfl⟩ := byte h1
  refine ⟨1000, ?_⟩
  obtain ⟨q1, e1, e2⟩ := div_same a b ha hb
  obtain ⟨q2, e3, e4⟩ := pow_same a n ha
  obtain ⟨q3, e5, e6⟩ := log_same a ha
  unfold flintlaw5_GfReckons.f
  rw [known_ok 1000 (by omega), e1, e2, e3, e4, e5, e6, mul_ok 1000 a b (by omega) ha hb, rmul_ok 1000 a b (by omega) ha hb]
  simp [gf_Add.f]
end Go.Proofs.Ytgoacbbaiigpeaa.Pure
