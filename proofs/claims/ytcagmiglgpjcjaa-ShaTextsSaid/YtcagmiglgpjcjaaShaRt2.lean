/-
  Cube roots of primes 45 to 64, by evaluation.
-/
import Derived.Test.YtcagmiglgpjcjaaPSax2
set_option linter.unusedVariables false
set_option linter.unusedSimpArgs false
namespace Go.Proofs.Ytcagmiglgpjcjaa.Sh
open Go.RowKit Go.Proofs.YtcagmiglgpjcjaaW.PrintWords Go.Proofs.YtcagmiglgpjcjaaW.PrintLast Go.Proofs.YtcagmiglgpjcjaaW.PrintMore Go.Proofs.Ytcagmiglgpjcjaa.PSa

theorem root3_44 : flintref15_root.f 100 197 3 = some 3516065817 := by decide +kernel
theorem root3_45 : flintref15_root.f 100 199 3 = some 3600352804 := by decide +kernel
theorem root3_46 : flintref15_root.f 100 211 3 = some 4094571909 := by decide +kernel
theorem root3_47 : flintref15_root.f 100 223 3 = some 275423344 := by decide +kernel
theorem root3_48 : flintref15_root.f 100 227 3 = some 430227734 := by decide +kernel
theorem root3_49 : flintref15_root.f 100 229 3 = some 506948616 := by decide +kernel
theorem root3_50 : flintref15_root.f 100 233 3 = some 659060556 := by decide +kernel
theorem root3_51 : flintref15_root.f 100 239 3 = some 883997877 := by decide +kernel
theorem root3_52 : flintref15_root.f 100 241 3 = some 958139571 := by decide +kernel
theorem root3_53 : flintref15_root.f 100 251 3 = some 1322822218 := by decide +kernel
theorem root3_54 : flintref15_root.f 100 257 3 = some 1537002063 := by decide +kernel
theorem root3_55 : flintref15_root.f 100 263 3 = some 1747873779 := by decide +kernel
theorem root3_56 : flintref15_root.f 100 269 3 = some 1955562222 := by decide +kernel
theorem root3_57 : flintref15_root.f 100 271 3 = some 2024104815 := by decide +kernel
theorem root3_58 : flintref15_root.f 100 277 3 = some 2227730452 := by decide +kernel
theorem root3_59 : flintref15_root.f 100 281 3 = some 2361852424 := by decide +kernel
theorem root3_60 : flintref15_root.f 100 283 3 = some 2428436474 := by decide +kernel
theorem root3_61 : flintref15_root.f 100 293 3 = some 2756734187 := by decide +kernel
theorem root3_62 : flintref15_root.f 100 307 3 = some 3204031479 := by decide +kernel
theorem root3_63 : flintref15_root.f 100 311 3 = some 3329325298 := by decide +kernel
end Go.Proofs.Ytcagmiglgpjcjaa.Sh
