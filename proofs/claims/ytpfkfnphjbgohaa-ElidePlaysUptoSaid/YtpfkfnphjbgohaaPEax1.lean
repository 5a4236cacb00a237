/- Laid by a program of this session (myprint.py): Go functions as Lean functions, each with the proof that the machine comes to just these answers. -/
import Derived.Test.YtpfkfnphjbgohaaPEax0
namespace Go.Proofs.Ytpfkfnphjbgohaa.PEa
open Go.RowKit Go.Proofs.YtpfkfnphjbgohaaW.PrintWords Go.Proofs.YtpfkfnphjbgohaaW.PrintLast Go.Proofs.YtpfkfnphjbgohaaW.PrintMore
attribute [local go_sem] El.binS_leq El.binS_gtr El.binS_geq max2_int min2_int max_two min_two max_three min_three max_four min_four   -- for this text's walks alone
set_option linter.unusedVariables false
set_option linter.unusedSimpArgs false

theorem eqA27 (d : Nat) (w : World) (x0 y0 : ByteArray) (x1 y1 : ByteArray) (x2 y2 : Int) :
    (Op.equalIn (d + 2) 27 (.agg #[.string x0, .string x1, .int .u64 x2]) (.agg #[.string y0, .string y1, .int .u64 y2])).run Try.prog w = .ok (x0.toList == y0.toList && (x1.toList == y1.toList && (x2 == y2))) w := by
  refine eqA_of Try.underlying27 (by kernel_rfl) ?_
  refine eqf_cons (by rfl) (by go_simp; rfl) (by go_simp; rfl) (by go_simp) ?_
  refine eqf_cons (by rfl) (by go_simp; rfl) (by go_simp; rfl) (by go_simp) ?_
  exact eqf_last (by rfl) (by go_simp; rfl) (by go_simp; rfl) (by go_simp)
end Go.Proofs.Ytpfkfnphjbgohaa.PEa
