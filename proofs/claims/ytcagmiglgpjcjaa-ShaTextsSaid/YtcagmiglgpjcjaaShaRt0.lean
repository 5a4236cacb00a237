/-
  Cube roots of primes 1 to 22, by evaluation.
-/
import Derived.Test.YtcagmiglgpjcjaaPSax2
set_option linter.unusedVariables false
set_option linter.unusedSimpArgs false
namespace Go.Proofs.Ytcagmiglgpjcjaa.Sh
open Go.RowKit Go.Proofs.YtcagmiglgpjcjaaW.PrintWords Go.Proofs.YtcagmiglgpjcjaaW.PrintLast Go.Proofs.YtcagmiglgpjcjaaW.PrintMore Go.Proofs.Ytcagmiglgpjcjaa.PSa

theorem root3_0 : flintref15_root.f 100 2 3 = some 1116352408 := by decide +kernel
theorem root3_1 : flintref15_root.f 100 3 3 = some 1899447441 := by decide +kernel
theorem root3_2 : flintref15_root.f 100 5 3 = some 3049323471 := by decide +kernel
theorem root3_3 : flintref15_root.f 100 7 3 = some 3921009573 := by decide +kernel
theorem root3_4 : flintref15_root.f 100 11 3 = some 961987163 := by decide +kernel
theorem root3_5 : flintref15_root.f 100 13 3 = some 1508970993 := by decide +kernel
theorem root3_6 : flintref15_root.f 100 17 3 = some 2453635748 := by decide +kernel
theorem root3_7 : flintref15_root.f 100 19 3 = some 2870763221 := by decide +kernel
theorem root3_8 : flintref15_root.f 100 23 3 = some 3624381080 := by decide +kernel
theorem root3_9 : flintref15_root.f 100 29 3 = some 310598401 := by decide +kernel
theorem root3_10 : flintref15_root.f 100 31 3 = some 607225278 := by decide +kernel
theorem root3_11 : flintref15_root.f 100 37 3 = some 1426881987 := by decide +kernel
theorem root3_12 : flintref15_root.f 100 41 3 = some 1925078388 := by decide +kernel
theorem root3_13 : flintref15_root.f 100 43 3 = some 2162078206 := by decide +kernel
theorem root3_14 : flintref15_root.f 100 47 3 = some 2614888103 := by decide +kernel
theorem root3_15 : flintref15_root.f 100 53 3 = some 3248222580 := by decide +kernel
theorem root3_16 : flintref15_root.f 100 59 3 = some 3835390401 := by decide +kernel
theorem root3_17 : flintref15_root.f 100 61 3 = some 4022224774 := by decide +kernel
theorem root3_18 : flintref15_root.f 100 67 3 = some 264347078 := by decide +kernel
theorem root3_19 : flintref15_root.f 100 71 3 = some 604807628 := by decide +kernel
theorem root3_20 : flintref15_root.f 100 73 3 = some 770255983 := by decide +kernel
theorem root3_21 : flintref15_root.f 100 79 3 = some 1249150122 := by decide +kernel
theorem root2_0 : flintref15_root.f 100 2 2 = some 1779033703 := by decide +kernel
theorem root2_1 : flintref15_root.f 100 3 2 = some 3144134277 := by decide +kernel
theorem root2_2 : flintref15_root.f 100 5 2 = some 1013904242 := by decide +kernel
theorem root2_3 : flintref15_root.f 100 7 2 = some 2773480762 := by decide +kernel
theorem root2_4 : flintref15_root.f 100 11 2 = some 1359893119 := by decide +kernel
theorem root2_5 : flintref15_root.f 100 13 2 = some 2600822924 := by decide +kernel
theorem root2_6 : flintref15_root.f 100 17 2 = some 528734635 := by decide +kernel
theorem root2_7 : flintref15_root.f 100 19 2 = some 1541459225 := by decide +kernel
end Go.Proofs.Ytcagmiglgpjcjaa.Sh
