/-
  gf.Unit by the contract of made.
-/
import Derived.Test.YtgoacbbaiigpeaaGfTimes
set_option linter.unusedVariables false
set_option linter.unusedSimpArgs false
namespace Go.Proofs.Ytgoacbbaiigpeaa.Gf
open Go.RowKit Go.Proofs.YtgoacbbaiigpeaaW.PrintWords Go.Proofs.YtgoacbbaiigpeaaW.PrintLast Go.Proofs.Ytgoacbbaiigpeaa.PGa

def kron (i j : Nat) : Int := if i = j then 1 else 0
theorem unit40 (i j : Nat) (W : World) : Calls Try.prog 40 #[.int .i64 i, .int .i64 j] W fun e w' => e = .returned (.int .u8 (kron i j)) ∧ Below W.heap.size W w' := by
  by_cases e : i = j
  · subst e
    have hk : kron i i = 1 := by simp [kron]
    rw [hk]
    go_enter Try.func40, Try.ntmps40
    go_wp2
    go_ret
    exact ⟨rfl, Below.refl _ _⟩
  · have hk : kron i j = 0 := by simp [kron, e]
    rw [hk]
    have b : ((i : Int) == (j : Int)) = false := by simp; omega
    go_enter Try.func40, Try.ntmps40
    go_wp2
    go_ret
    exact ⟨rfl, Below.refl _ _⟩
theorem unit22_out (w : World) (n : Nat) (hn : n ≤ 255) (h1 : 1 ≤ n) :
    Calls Try.prog 22 #[.int .i64 n] w fun e w' => ∃ b, e = .returned (.tuple #[.slice (some ⟨w.heap.size, 0, none⟩) n n, .int .i64 0]) ∧ Outer w w' n n n b (fun j => rowCells n n (kron j)) := by
  have hm := made_calls w n n 40 #[] kron hn hn (Go.Proofs.enters_of Try.func40 (by kernel_rfl) rfl) (fun i j _ _ W _ => unit40 i j W)
  have b1 : decide ((n : Int) < 1) = false := decide_eq_false (by omega)
  have b2 : decide (255 < (n : Int)) = false := decide_eq_false (by omega)
  go_enter Try.func22, Try.ntmps22
  go_wp2_with (go_at_call 39; refine hm.mono ?_; rintro e w' ⟨b, rfl, hO⟩)
  go_ret2
  exact ⟨b, rfl, hO⟩
def unitF (a0 : Int) : Option (List (List Int) × Int) := if a0 < 1 then some ([], 1) else if a0 > 255 then some ([], 1) else some (matrix a0.toNat a0.toNat kron, 0)
theorem unit22 (a0 : Int) (r1 : List (List Int)) (r2 : Int) (w : World) (h : unitF a0 = some (r1, r2)) :
    Calls Try.prog 22 #[.int .i64 a0] w fun e w' => ∃ v0_ : Value, e = .returned (.tuple #[v0_, .int .i64 r2]) ∧ Kd.S (Kd.slice 5 (Kd.int .u8)) 53 w' w.heap.size (fun _ => True) v0_ r1 ∧ Below w.heap.size w w' := by
  unfold unitF at h
  by_cases h1 : a0 < 1
  · rw [if_pos h1] at h
    simp only [Option.some.injEq, Prod.mk.injEq] at h
    obtain ⟨rfl, rfl⟩ := h
    have b1 : decide (a0 < 1) = true := decide_eq_true h1
    go_enter Try.func22, Try.ntmps22
    go_wp2
    go_ret2
    exact ⟨_, rfl, Kd.S_nil _ _ _ _ _, by first | exact Below.refl _ _ | exact pw_below_drewN (Below.refl _ _) _⟩
  · rw [if_neg h1] at h
    have b1 : decide (a0 < 1) = false := decide_eq_false h1
    by_cases h2 : a0 > 255
    · rw [if_pos h2] at h
      simp only [Option.some.injEq, Prod.mk.injEq] at h
      obtain ⟨rfl, rfl⟩ := h
      have b2 : decide (255 < a0) = true := decide_eq_true h2
      clear h1 h2
      go_enter Try.func22, Try.ntmps22
      go_wp2
      go_ret2
      exact ⟨_, rfl, Kd.S_nil _ _ _ _ _, by first | exact Below.refl _ _ | exact pw_below_drewN (Below.refl _ _) _⟩
    · rw [if_neg h2] at h
      simp only [Option.some.injEq, Prod.mk.injEq] at h
      obtain ⟨rfl, rfl⟩ := h
      obtain ⟨n, rfl⟩ : ∃ n : Nat, a0 = n := ⟨a0.toNat, by omega⟩
      refine (unit22_out w n (by omega) (by omega)).mono ?_
      rintro e w' ⟨b, rfl, hO⟩
      exact ⟨_, rfl, hO.owned (by omega) (by omega), hO.below⟩
/-- gf.Right, as the print's law calls want it. -/
theorem right_calls (A0 : Option Addr) (c0 : Nat) (l0 : List (List Int)) (r : Bool) (w : World) (hr0 : Kd.C (Kd.slice 5 (Kd.int .u8)) w A0 l0.length l0) (h : some (rightB l0) = some r) :
    Calls Try.prog 27 #[.slice A0 l0.length c0] w fun e w' => e = .returned (.bool r) ∧ Below w.heap.size w w' := by
  obtain rfl := Option.some.inj h
  exact right27 w l0 A0 c0 hr0
end Go.Proofs.Ytgoacbbaiigpeaa.Gf
