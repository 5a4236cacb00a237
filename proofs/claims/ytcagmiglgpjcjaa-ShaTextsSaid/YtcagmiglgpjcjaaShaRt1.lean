/-
  Cube roots of primes 23 to 44, by evaluation.
-/
import Derived.Test.YtcagmiglgpjcjaaPSax2
set_option linter.unusedVariables false
set_option linter.unusedSimpArgs false
namespace Go.Proofs.Ytcagmiglgpjcjaa.Sh
open Go.RowKit Go.Proofs.YtcagmiglgpjcjaaW.PrintWords Go.Proofs.YtcagmiglgpjcjaaW.PrintLast Go.Proofs.YtcagmiglgpjcjaaW.PrintMore Go.Proofs.Ytcagmiglgpjcjaa.PSa

theorem root3_22 : flintref15_root.f 100 83 3 = some 1555081692 := by decide +kernel
theorem root3_23 : flintref15_root.f 100 89 3 = some 1996064986 := by decide +kernel
theorem root3_24 : flintref15_root.f 100 97 3 = some 2554220882 := by decide +kernel
theorem root3_25 : flintref15_root.f 100 101 3 = some 2821834349 := by decide +kernel
theorem root3_26 : flintref15_root.f 100 103 3 = some 2952996808 := by decide +kernel
theorem root3_27 : flintref15_root.f 100 107 3 = some 3210313671 := by decide +kernel
theorem root3_28 : flintref15_root.f 100 109 3 = some 3336571891 := by decide +kernel
theorem root3_29 : flintref15_root.f 100 113 3 = some 3584528711 := by decide +kernel
theorem root3_30 : flintref15_root.f 100 127 3 = some 113926993 := by decide +kernel
theorem root3_31 : flintref15_root.f 100 131 3 = some 338241895 := by decide +kernel
theorem root3_32 : flintref15_root.f 100 137 3 = some 666307205 := by decide +kernel
theorem root3_33 : flintref15_root.f 100 139 3 = some 773529912 := by decide +kernel
theorem root3_34 : flintref15_root.f 100 149 3 = some 1294757372 := by decide +kernel
theorem root3_35 : flintref15_root.f 100 151 3 = some 1396182291 := by decide +kernel
theorem root3_36 : flintref15_root.f 100 157 3 = some 1695183700 := by decide +kernel
theorem root3_37 : flintref15_root.f 100 163 3 = some 1986661051 := by decide +kernel
theorem root3_38 : flintref15_root.f 100 167 3 = some 2177026350 := by decide +kernel
theorem root3_39 : flintref15_root.f 100 173 3 = some 2456956037 := by decide +kernel
theorem root3_40 : flintref15_root.f 100 179 3 = some 2730485921 := by decide +kernel
theorem root3_41 : flintref15_root.f 100 181 3 = some 2820302411 := by decide +kernel
theorem root3_42 : flintref15_root.f 100 191 3 = some 3259730800 := by decide +kernel
theorem root3_43 : flintref15_root.f 100 193 3 = some 3345764771 := by decide +kernel
end Go.Proofs.Ytcagmiglgpjcjaa.Sh
