/-
  strings.IndexByte; a digit's value.
-/
import Derived.Test.YtcagmiglgpjcjaaShaStr
import Derived.Lib.Bytealg
import Derived.Laws.Externs
set_option linter.unusedVariables false
set_option linter.unusedSimpArgs false
namespace Go.Proofs.Ytcagmiglgpjcjaa.Sh
open Go.RowKit Go.Proofs.YtcagmiglgpjcjaaW.PrintWords Go.Proofs.YtcagmiglgpjcjaaW.PrintLast Go.Proofs.YtcagmiglgpjcjaaW.PrintMore Go.Proofs.Ytcagmiglgpjcjaa.PSa

set_option maxRecDepth 100000 in
theorem ix32 (s : ByteArray) (c : Int) (w : World) : Calls Try.prog 32 #[.string s, .int .u8 c] w fun e w' => e = .returned (.int .i64 (Go.Lib.indexByte s.data.toList c.toNat.toUInt8)) ∧ w' = w := by
  go_enter Try.func32, Try.ntmps32
  go_wp2
  rw [run_callFunc_extern Try.func35 (by kernel_rfl) (by kernel_rfl) (by kernel_rfl) (e := Extern.BytealgIndexByte.indexByte) (by kernel_rfl), Go.Lib.run_indexByteString]
  simp only [Result.andThen]
  rw [Oper.upon_value]
  go_wp2
  go_ret
  exact ⟨rfl, rfl⟩
theorem ix25 (s : ByteArray) (c : Int) (w : World) : Calls Try.prog 25 #[.string s, .int .u8 c] w fun e w' => e = .returned (.int .i64 (Go.Lib.indexByte s.data.toList c.toNat.toUInt8)) ∧ w' = w := by
  have H := Aside0.mk (fun W => ix32 s c W)
  generalize Go.Lib.indexByte s.data.toList c.toNat.toUInt8 = r at *
  go_enter Try.func25, Try.ntmps25
  go_wp2_with (go_at_call 32; refine (H.out _).mono ?_; rintro e w2 ⟨rfl, rfl⟩)
  go_ret
  exact ⟨rfl, rfl⟩
/-- A digit's value; -1: none. -/
def ixd (c : Int) : Int := Go.Lib.indexByte Dg16.data.toList c.toNat.toUInt8
def hexOk (c : Int) : Bool := (decide (48 ≤ c) && decide (c ≤ 57)) || (decide (97 ≤ c) && decide (c ≤ 102))
set_option maxRecDepth 100000 in
theorem ixd_all : (List.range 256).all (fun n => decide (ixd (n : Int) = if 48 ≤ n ∧ n ≤ 57 then (n : Int) - 48 else if 97 ≤ n ∧ n ≤ 102 then (n : Int) - 87 else -1)) = true := by decide +kernel
theorem ixd_eq (c : Int) (h0 : 0 ≤ c) (h1 : c ≤ 255) : ixd c = if 48 ≤ c ∧ c ≤ 57 then c - 48 else if 97 ≤ c ∧ c ≤ 102 then c - 87 else -1 := by
  obtain ⟨n, rfl⟩ := Int.eq_ofNat_of_zero_le h0
  have := (List.all_eq_true.1 ixd_all) n (List.mem_range.2 (by omega))
  rw [of_decide_eq_true this]
  by_cases a : 48 ≤ n ∧ n ≤ 57
  · rw [if_pos a, if_pos (show (48 : Int) ≤ (n : Int) ∧ (n : Int) ≤ 57 by omega)]
  · rw [if_neg a, if_neg (show ¬ ((48 : Int) ≤ (n : Int) ∧ (n : Int) ≤ 57) by omega)]
    by_cases b : 97 ≤ n ∧ n ≤ 102
    · rw [if_pos b, if_pos (show (97 : Int) ≤ (n : Int) ∧ (n : Int) ≤ 102 by omega)]
    · rw [if_neg b, if_neg (show ¬ ((97 : Int) ≤ (n : Int) ∧ (n : Int) ≤ 102) by omega)]
end Go.Proofs.Ytcagmiglgpjcjaa.Sh
