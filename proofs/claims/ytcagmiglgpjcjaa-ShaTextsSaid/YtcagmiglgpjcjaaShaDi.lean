/-
  digits tells what Parse takes.
-/
import Derived.Test.YtcagmiglgpjcjaaShaPs
import Derived.Test.YtcagmiglgpjcjaaPSax3
set_option linter.unusedVariables false
set_option linter.unusedSimpArgs false
namespace Go.Proofs.Ytcagmiglgpjcjaa.Sh
open Go.RowKit Go.Proofs.YtcagmiglgpjcjaaW.PrintWords Go.Proofs.YtcagmiglgpjcjaaW.PrintLast Go.Proofs.YtcagmiglgpjcjaaW.PrintMore Go.Proofs.Ytcagmiglgpjcjaa.PSa

theorem ixd_nonneg (c : Int) (h0 : 0 ≤ c) (h1 : c ≤ 255) : 0 ≤ ixd c ↔ (48 ≤ c ∧ c ≤ 57) ∨ (97 ≤ c ∧ c ≤ 102) := by
  rw [ixd_eq c h0 h1]
  split
  · constructor
    · intro _; left; assumption
    · intro _; omega
  · split
    · constructor
      · intro _; right; assumption
      · intro _; omega
    · constructor
      · intro h; omega
      · intro h; omega
theorem digits_l0 (s : ByteArray) (hs : s.size = 64) : ∀ (m i : Nat), m + i = 64 → (∀ j : Nat, j < i → 0 ≤ ixd (bt s (j : Int))) → flintlaw15_digits.l0 (m + 1) s (i : Int) = some (prOk s)
  | 0, i, h, hg => by
    rw [flintlaw15_digits.l0, if_neg (by omega), prOk_yes hs (fun j hj => hg j (by omega))]
  | m + 1, i, h, hg => by
    have hr := bt_range s (i : Int)
    have hn := ixd_nonneg (bt s (i : Int)) hr.1 hr.2
    have w1 : wrap64 ((i : Int) + 1) = ((i + 1 : Nat) : Int) := by unfold wrap64; omega
    rw [flintlaw15_digits.l0, if_pos (by omega), if_pos (by omega), if_pos (by omega), w1]
    by_cases hx : 0 ≤ ixd (bt s (i : Int))
    · have ih := digits_l0 s hs m (i + 1) (by omega) (fun j hj => by
        rcases Nat.lt_succ_iff_lt_or_eq.1 hj with h | h
        · exact hg j h
        · rw [h]; exact hx)
      rcases hn.1 hx with ⟨a, b⟩ | ⟨a, b⟩
      · rw [if_pos a, if_pos b, ih]
      · by_cases c : bt s (i : Int) ≥ 48
        · rw [if_pos c, if_neg (show ¬ bt s (i : Int) ≤ 57 by omega), if_pos a, if_pos b, ih]
        · rw [if_neg c, if_pos a, if_pos b, ih]
    · rw [prOk_not (s := s) (k := i) (by omega) (Int.not_le.1 hx)]
      have hx2 := fun h => hx (hn.2 h)
      by_cases c : bt s (i : Int) ≥ 48
      · rw [if_pos c, if_neg (fun d => hx2 (Or.inl ⟨c, d⟩))]
        by_cases e : bt s (i : Int) ≥ 97
        · rw [if_pos e, if_neg (fun d => hx2 (Or.inr ⟨e, d⟩))]
        · rw [if_neg e]
      · rw [if_neg c]
        by_cases e : bt s (i : Int) ≥ 97
        · rw [if_pos e, if_neg (fun d => hx2 (Or.inr ⟨e, d⟩))]
        · rw [if_neg e]
theorem digits17 (s : ByteArray) (w : World) : Calls Try.prog 17 #[.string s] w fun e w' => e = .returned (.bool (prOk s)) ∧ Drawn0 w w' := by
  refine flintlaw15_digits.calls 65 s (prOk s) w ?_
  unfold flintlaw15_digits.f
  by_cases hs : s.size = 64
  · rw [if_pos (by omega)]
    exact digits_l0 s hs 64 0 (by omega) (fun j hj => absurd hj (Nat.not_lt_zero j))
  · rw [if_neg (by omega), show prOk s = false by simp [prOk, hs]]
end Go.Proofs.Ytcagmiglgpjcjaa.Sh
