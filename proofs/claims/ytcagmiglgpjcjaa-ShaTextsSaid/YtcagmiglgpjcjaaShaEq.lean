/-
  Two sums compared.
-/
import Derived.Test.YtcagmiglgpjcjaaShaPad
import Derived.ChangeKeysEq
import Derived.Laws.StructEq
set_option linter.unusedVariables false
set_option linter.unusedSimpArgs false
namespace Go.Proofs.Ytcagmiglgpjcjaa.Sh
open Go.RowKit Go.Proofs.YtcagmiglgpjcjaaW.PrintWords Go.Proofs.YtcagmiglgpjcjaaW.PrintLast Go.Proofs.YtcagmiglgpjcjaaW.PrintMore Go.Proofs.Ytcagmiglgpjcjaa.PSa

theorem plain5 : Try.prog.plainKey 5 = true := by kernel_rfl
theorem cells5 : Try.prog.cellsOf 5 = 1 := by kernel_rfl
theorem eqItems_u8 (d : Nat) (a b : List Int) (w : World) : ∀ is : List Nat, (∀ i ∈ is, i < a.length ∧ i < b.length) → (Op.eqItems (d + 1) 5 1 (u8s a) (u8s b) is).run Try.prog w = .ok (is.all fun i => at32 a i == at32 b i) w
  | [], _ => rfl
  | i :: is, h => by
    obtain ⟨h1, h2⟩ := h i (by simp)
    have ha : (u8s a)[i * 1]? = some (.int .u8 (at32 a i)) := by rw [Nat.mul_one, u8s_get, at32]; simp [h1]
    have hb : (u8s b)[i * 1]? = some (.int .u8 (at32 b i)) := by rw [Nat.mul_one, u8s_get, at32]; simp [h2]
    have he : (Op.equalIn (d + 1) 5 (.int .u8 (at32 a i)) (.int .u8 (at32 b i))).run Try.prog w = .ok (at32 a i == at32 b i) w := by
      simp [Op.equalIn, run_underlying Try.underlying5]
    have ih := eqItems_u8 d a b w is (fun j hj => h j (by simp [hj]))
    simp only [Op.eqItems, Sem.run_bind, run_part_plain w plain5 ha, run_part_plain w plain5 hb, Result.andThen_ok, he]
    cases hq : at32 a i == at32 b i
    · simp [hq]
    · simp [hq, ih]
theorem eq25 (a b : List Int) (ha : a.length = 32) (hb : b.length = 32) (w : World) : (Op.equalIn 10000 25 (.agg (u8s a)) (.agg (u8s b))).run Try.prog w = .ok (decide (a = b)) w := by
  obtain ⟨i5, hi5, _, _, _⟩ := info_parts info5
  rw [show (10000 : Nat) = 9998 + 1 + 1 from rfl, run_equalIn_array w (9998 + 1) (u8s a) (u8s b) Try.underlying25 hi5, cells5, eqItems_u8 9998 a b w _ (fun i hi => by rw [List.mem_range] at hi; omega)]
  congr 1
  rw [Bool.eq_iff_iff]
  simp only [List.all_eq_true, List.mem_range, beq_iff_eq, decide_eq_true_eq]
  constructor
  · intro h
    apply List.ext_getElem (by omega)
    intro i h1 h2
    have := h i (by omega)
    simpa [at32, h1, h2] using this
  · rintro rfl i _
    rfl
end Go.Proofs.Ytcagmiglgpjcjaa.Sh
