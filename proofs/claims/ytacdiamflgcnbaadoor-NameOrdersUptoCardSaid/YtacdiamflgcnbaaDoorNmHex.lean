/-
  The walk of name.hex.
-/
import Derived.Test.YtacdiamflgcnbaaDoorNmKey
import Derived.Test.YtacdiamflgcnbaaDoorWMore
import Derived.Deep.QuietTactic
import Derived.BigQuiet
set_option linter.unusedVariables false
set_option linter.unusedSimpArgs false
namespace Go.Proofs.YtacdiamflgcnbaaDoor.Nm
open Go.RowKit Go.Proofs.YtacdiamflgcnbaaDoorW.PrintWords Go.Proofs.YtacdiamflgcnbaaDoorW.PrintLast Go.Proofs.YtacdiamflgcnbaaDoorW.PrintMore
def dig (n : Nat) : UInt8 := if n < 10 then UInt8.ofNat (48 + n) else UInt8.ofNat (87 + n)
def hexB (c : Nat) : ByteArray := ⟨#[92, 120, dig (c / 16), dig (c % 16)]⟩
theorem cut_one : ∀ a : Fin 16, (⟨#[48, 49, 50, 51, 52, 53, 54, 55, 56, 57, 97, 98, 99, 100, 101, 102]⟩ : ByteArray).extract a.val (a.val + 1) = ⟨#[dig a.val]⟩ := by decide +kernel
set_option maxHeartbeats 2000000 in
set_option maxRecDepth 100000 in
theorem hex37 (c : Nat) (hc : c < 256) (w : World) : Calls Tryd.prog 37 #[.int .u8 c] w fun e w' => e = .returned (.string (hexB c)) ∧ Drawn0 w w' := by
  have hr1 : (c : Int).tdiv 16 = ((c / 16 : Nat) : Int) := by simp [Int.tdiv]
  have hr2 : (c : Int).tmod 16 = ((c % 16 : Nat) : Int) := by simp [Int.tmod]
  obtain ⟨a, ha⟩ : ∃ a, c / 16 = a := ⟨_, rfl⟩
  obtain ⟨b, hb⟩ : ∃ b, c % 16 = b := ⟨_, rfl⟩
  have ha16 : a < 16 := by omega
  have hb16 : b < 16 := by omega
  have HA := Aside0.mk (cut_one ⟨a, ha16⟩)
  have HB := Aside0.mk (cut_one ⟨b, hb16⟩)
  have hx : hexB c = ⟨#[92, 120, dig a, dig b]⟩ := by unfold hexB; rw [ha, hb]
  rw [ha] at hr1
  rw [hb] at hr2
  rw [hx]
  clear hx ha hb
  go_enter Tryd.func37, Tryd.ntmps37
  go_wp2
  go_quiet (skip)
  go_wp2
  go_ret
  exact ⟨by rw [HA.out, HB.out]; rfl, nq, rfl⟩
def name_hex.f (a0 : Int) : Option ByteArray := if 0 ≤ a0 ∧ a0 < 256 then some (hexB a0.toNat) else none
theorem name_hex.calls (a0 : Int) (r : ByteArray) (w : World) (h : name_hex.f a0 = some r) :
    Calls Tryd.prog 37 #[.int .u8 a0] w fun e w' => e = .returned (.string r) ∧ Drawn0 w w' := by
  unfold name_hex.f at h
  split at h
  · rename_i hc
    cases h
    obtain ⟨n, rfl⟩ := Int.eq_ofNat_of_zero_le hc.1
    exact hex37 n (by omega) w
  · cases h
end Go.Proofs.YtacdiamflgcnbaaDoor.Nm
