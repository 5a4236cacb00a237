/-
  The primes and their roots: the constants of the program.
-/
import Derived.Test.YtcagmiglgpjcjaaShaRt0
import Derived.Test.YtcagmiglgpjcjaaShaRt1
import Derived.Test.YtcagmiglgpjcjaaShaRt2
import Derived.Test.YtcagmiglgpjcjaaShaWr
set_option linter.unusedVariables false
set_option linter.unusedSimpArgs false
namespace Go.Proofs.Ytcagmiglgpjcjaa.Sh
open Go.RowKit Go.Proofs.YtcagmiglgpjcjaaW.PrintWords Go.Proofs.YtcagmiglgpjcjaaW.PrintLast Go.Proofs.YtcagmiglgpjcjaaW.PrintMore Go.Proofs.Ytcagmiglgpjcjaa.PSa

/-- The first 64 primes. -/
def P64 : List Int := [2, 3, 5, 7, 11, 13, 17, 19, 23, 29, 31, 37, 41, 43, 47, 53, 59, 61, 67, 71, 73, 79, 83, 89, 97, 101, 103, 107, 109, 113, 127, 131, 137, 139, 149, 151, 157, 163, 167, 173, 179, 181, 191, 193, 197, 199, 211, 223, 227, 229, 233, 239, 241, 251, 257, 263, 269, 271, 277, 281, 283, 293, 307, 311]
set_option maxRecDepth 1000000 in
theorem primes_ok : flintref15_primes.f 12000 64 = some P64 := by decide +kernel
theorem P64_length : P64.length = 64 := rfl
theorem root3 : ∀ i, i < 64 → flintref15_root.f 100 (at32 P64 i) 3 = some (at32 Kc i)
  | 0, _ => root3_0
  | 1, _ => root3_1
  | 2, _ => root3_2
  | 3, _ => root3_3
  | 4, _ => root3_4
  | 5, _ => root3_5
  | 6, _ => root3_6
  | 7, _ => root3_7
  | 8, _ => root3_8
  | 9, _ => root3_9
  | 10, _ => root3_10
  | 11, _ => root3_11
  | 12, _ => root3_12
  | 13, _ => root3_13
  | 14, _ => root3_14
  | 15, _ => root3_15
  | 16, _ => root3_16
  | 17, _ => root3_17
  | 18, _ => root3_18
  | 19, _ => root3_19
  | 20, _ => root3_20
  | 21, _ => root3_21
  | 22, _ => root3_22
  | 23, _ => root3_23
  | 24, _ => root3_24
  | 25, _ => root3_25
  | 26, _ => root3_26
  | 27, _ => root3_27
  | 28, _ => root3_28
  | 29, _ => root3_29
  | 30, _ => root3_30
  | 31, _ => root3_31
  | 32, _ => root3_32
  | 33, _ => root3_33
  | 34, _ => root3_34
  | 35, _ => root3_35
  | 36, _ => root3_36
  | 37, _ => root3_37
  | 38, _ => root3_38
  | 39, _ => root3_39
  | 40, _ => root3_40
  | 41, _ => root3_41
  | 42, _ => root3_42
  | 43, _ => root3_43
  | 44, _ => root3_44
  | 45, _ => root3_45
  | 46, _ => root3_46
  | 47, _ => root3_47
  | 48, _ => root3_48
  | 49, _ => root3_49
  | 50, _ => root3_50
  | 51, _ => root3_51
  | 52, _ => root3_52
  | 53, _ => root3_53
  | 54, _ => root3_54
  | 55, _ => root3_55
  | 56, _ => root3_56
  | 57, _ => root3_57
  | 58, _ => root3_58
  | 59, _ => root3_59
  | 60, _ => root3_60
  | 61, _ => root3_61
  | 62, _ => root3_62
  | 63, _ => root3_63
  | i + 64, h => absurd h (by omega)
theorem root2 : ∀ i, i < 8 → flintref15_root.f 100 (at32 P64 i) 2 = some (at32 H0 i)
  | 0, _ => root2_0
  | 1, _ => root2_1
  | 2, _ => root2_2
  | 3, _ => root2_3
  | 4, _ => root2_4
  | 5, _ => root2_5
  | 6, _ => root2_6
  | 7, _ => root2_7
  | i + 8, h => absurd h (by omega)
/-- The words and the constants, laid one by one. -/
def Hl : Nat → List Int
  | 0 => z8
  | i + 1 => if i < 8 then (Hl i).set i (at32 H0 i) else Hl i
def Kl : Nat → List Int
  | 0 => z64
  | i + 1 => (Kl i).set i (at32 Kc i)
theorem Hl_length : ∀ i, (Hl i).length = 8
  | 0 => rfl
  | i + 1 => by
    rw [Hl]
    split
    · rw [List.length_set, Hl_length i]
    · exact Hl_length i
theorem Kl_length : ∀ i, (Kl i).length = 64
  | 0 => rfl
  | i + 1 => by rw [Kl, List.length_set, Kl_length i]
theorem Hl_all : Hl 64 = H0 := by decide +kernel
theorem Kl_all : Kl 64 = Kc := by decide +kernel
end Go.Proofs.Ytcagmiglgpjcjaa.Sh
