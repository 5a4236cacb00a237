/-
  The closures of gf.Matrix.Inverse that touch nothing of a grid's form: both, an element, is it not 0.
-/
import Derived.Test.YtgoacbbaiigpeaaGfTimes
set_option linter.unusedVariables false
set_option linter.unusedSimpArgs false
namespace Go.Proofs.Ytgoacbbaiigpeaa.Gf
open Go.RowKit Go.Proofs.YtgoacbbaiigpeaaW.PrintWords Go.Proofs.YtgoacbbaiigpeaaW.PrintLast Go.Proofs.Ytgoacbbaiigpeaa.PGa

theorem both49 (w : World) (g : Nat) (caps : Array Value) (ba bo : Nat) (va vo : Value) (Q R : World → Prop) (he : ∀ (args : Array Value) (w : World), (callFunc g args).run Try.prog w = .ok (.enter g args) w)
    (ha : w.cell? ⟨ba, 0, none⟩ = some va) (h1 : Calls Try.prog g (#[va] ++ caps) w fun e w1 => e = .returned (.tuple #[]) ∧ Q w1) (h2 : ∀ w1, Q w1 → w1.cell? ⟨bo, 0, none⟩ = some vo ∧ Calls Try.prog g (#[vo] ++ caps) w1 fun e w2 => e = .returned (.tuple #[]) ∧ R w2) :
    Calls Try.prog 49 #[.func (.func g) #[] caps, .pointer (some ⟨ba, 0, none⟩), .pointer (some ⟨bo, 0, none⟩)] w fun e w2 => e = .returned (.tuple #[]) ∧ R w2 := by
  have H1 : Hid (Calls Try.prog g (#[va] ++ caps) w fun e w1 => e = .returned (.tuple #[]) ∧ Q w1) := h1
  have H2 : Hid (∀ w1, Q w1 → w1.cell? ⟨bo, 0, none⟩ = some vo ∧ Calls Try.prog g (#[vo] ++ caps) w1 fun e w2 => e = .returned (.tuple #[]) ∧ R w2) := h2
  clear h1 h2
  go_enter Try.func49, Try.ntmps49
  go_wp2_with (first | (refine Calls.mono H1.out ?_; rintro e w1 ⟨rfl, hq⟩; have h3 := (H2.out w1 hq).1; have H4 : Hid (Calls Try.prog g (#[vo] ++ caps) w1 fun e w2 => e = .returned (.tuple #[]) ∧ R w2) := (H2.out w1 hq).2) | (refine Calls.mono H4.out ?_; rintro e w2 ⟨rfl, hr⟩))
  go_end0
  exact ⟨rfl, hr⟩
theorem elem48 (W : World) (l : List (List Int)) (A : Option Addr) (c mb i j : Nat) (hC : KR.C W A l.length l) (hm : W.cell? ⟨mb, 0, none⟩ = some (.slice A l.length c)) (ok : okB l = true) (hi : i < l.length) (hj : j < (row l i).length) :
    Calls Try.prog 48 #[.int .i64 i, .int .i64 j, .pointer (some ⟨mb, 0, none⟩)] W fun e w' => e = .returned (.int .u8 ((byt l i j : Nat) : Int)) ∧ W = w' := by
  obtain ⟨ad, A1, c1, rfl, h1, hl1, hI⟩ := rows_at hC hi
  obtain ⟨a2, rfl, h2⟩ := byte_at hI hj
  rw [(okB_at ok i j).2] at h2
  have q1 : (0 : Int) ≤ (i : Int) := by omega
  have q2 : (i : Int) < (l.length : Int) := by omega
  have q3 : (0 : Int) ≤ (j : Int) := by omega
  have q4 : (j : Int) < ((row l i).length : Int) := by omega
  generalize byt l i j = x at *
  generalize row l i = r at *
  go_enter Try.func48, Try.ntmps48
  go_wp2
  go_ret
  exact ⟨rfl, rfl⟩
theorem nonz51 (W : World) (A : Option Addr) (r : List Int) (c kb k : Nat) (hC : KB.C W A r.length r) (hk : W.cell? ⟨kb, 0, none⟩ = some (.int .i64 (k : Nat))) (hkr : k < r.length) :
    Calls Try.prog 51 #[.slice A r.length c, .pointer (some ⟨kb, 0, none⟩)] W fun e w' => e = .returned (.bool (r.getD k 0 != 0)) ∧ W = w' := by
  obtain ⟨a2, rfl, h2⟩ := byte_at hC hkr
  have q3 : (0 : Int) ≤ (k : Int) := by omega
  have q4 : (k : Int) < (r.length : Int) := by omega
  generalize r.getD k 0 = x at *
  go_enter Try.func51, Try.ntmps51
  go_wp2
  go_ret
  exact ⟨rfl, rfl⟩
end Go.Proofs.Ytgoacbbaiigpeaa.Gf
