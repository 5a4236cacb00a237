/-
  One sum compared with itself, as operations.
-/
import Derived.Test.YtcagmiglgpjcjaaShaEq
set_option linter.unusedVariables false
set_option linter.unusedSimpArgs false
namespace Go.Proofs.Ytcagmiglgpjcjaa.Sh
open Go.RowKit Go.Proofs.YtcagmiglgpjcjaaW.PrintWords Go.Proofs.YtcagmiglgpjcjaaW.PrintLast Go.Proofs.YtcagmiglgpjcjaaW.PrintMore Go.Proofs.Ytcagmiglgpjcjaa.PSa

/-- 'x != y' and 'x == y' of one sum with itself, as operations. -/
theorem exec_neq25 {a : Act} {o : Oper} {W : World} (i j : Nat) (ty : TypeId) (ho : o.op = .binOp .neq 25 (.tmp i) (.tmp j) ty) (O : List Int) (hO : O.length = 32) (hx : a.eval (.tmp i) = .agg (u8s O)) (hy : a.eval (.tmp j) = .agg (u8s O)) : (execOp a.eval o).run Try.prog W = .ok (.value (.bool false)) W := by
  unfold execOp
  simp only [ho, hx, hy, Sem.run_bind, run_neq_struct, eq25 O O hO hO, Result.andThen_ok, Sem.run_pure]
  simp [eqGuard]
theorem exec_eql25 {a : Act} {o : Oper} {W : World} (i j : Nat) (ty : TypeId) (ho : o.op = .binOp .eql 25 (.tmp i) (.tmp j) ty) (O : List Int) (hO : O.length = 32) (hx : a.eval (.tmp i) = .agg (u8s O)) (hy : a.eval (.tmp j) = .agg (u8s O)) : (execOp a.eval o).run Try.prog W = .ok (.value (.bool true)) W := by
  unfold execOp
  simp only [ho, hx, hy, Sem.run_bind, run_eql_struct, eq25 O O hO hO, Result.andThen_ok, Sem.run_pure]
  simp [eqGuard]
end Go.Proofs.Ytcagmiglgpjcjaa.Sh
