/-
  The law RsAnn, as its frame wants it.
-/
import Derived.Test.YtjolnjckgoilpaaRsAn
set_option linter.unusedVariables false
namespace Go.Proofs.Ytjolnjckgoilpaa.Rs
open Go.RowKit Go.Proofs.YtjolnjckgoilpaaW.PrintWords Go.Proofs.YtjolnjckgoilpaaW.PrintLast Go.Proofs.YtjolnjckgoilpaaW.PrintMore Go.Proofs.Ytjolnjckgoilpaa.PRa Go.Proofs.Ytjolnjckgoilpaa.Gf
theorem len_sum (l : List (List Int)) : (l.map fun r => r.length + 1).sum = (l.map List.length).sum + l.length := by
  induction l with
  | nil => simp
  | cons a l ih => simp only [List.map_cons, List.sum_cons, List.length_cons]; omega
/-- The law, as its frame wants it. -/
theorem rsAny_calls (A0 : Option Addr) (c0 : Nat) (l0 : List (List Int)) (a1 a2 a3 : Int) (r : Bool) (w : World) (hr0 : Kd.C (Kd.slice 5 (Kd.int .u8)) w A0 l0.length l0) (hc0 : l0.length ≤ c0) (h : (okB l0 = true ∧ (Lit.int .i64 a1).wf = true ∧ (Lit.int .i64 a2).wf = true ∧ (Lit.int .i64 a3).wf = true) ∧ (l0.map fun r => r.length + 1).sum ≤ 1048576 ∧ r = true) :
    Calls Try.prog 3 #[.slice A0 l0.length c0, .int .i64 a1, .int .i64 a2, .int .i64 a3] w fun e w' => e = .returned (.bool r) ∧ Below w.heap.size w w' := by
  obtain ⟨⟨ok0, w1⟩, h0, rfl⟩ := h
  have q0 := len_sum l0
  exact any3 w A0 c0 l0 hr0 hc0 ok0 (by omega) (by omega) a1 a2 a3
end Go.Proofs.Ytjolnjckgoilpaa.Rs
namespace Go.Proofs.Ytjolnjckgoilpaa.Pure
open Go.Proofs.Ytjolnjckgoilpaa.Gf Go.RowKit
theorem wf_byte {x : Int} (h : (Lit.int .u8 x).wf = true) : 0 ≤ x ∧ x < 256 := by
  obtain ⟨n, hn, rfl⟩ := GaFacts.byte h
  omega
theorem okB_of {l : List (List Int)} (h : ∀ r ∈ l, ∀ x ∈ r, (Lit.int .u8 x).wf = true) : okB l = true := by
  unfold okB
  simp only [List.all_eq_true]
  intro r hr x hx
  have := wf_byte (h r hr x hx)
  simp [this]
theorem RsAny (l0 : List (List Int)) (a1 a2 a3 : Int) (w0 : ∀ r ∈ l0, ∀ x ∈ r, (Lit.int .u8 x).wf = true) (hb : (l0.map fun r => r.length + 1).sum ≤ 1048576) (w1 : (Lit.int .i64 a1).wf = true) (w2 : (Lit.int .i64 a2).wf = true) (w3 : (Lit.int .i64 a3).wf = true) : (okB l0 = true ∧ (Lit.int .i64 a1).wf = true ∧ (Lit.int .i64 a2).wf = true ∧ (Lit.int .i64 a3).wf = true) ∧ (l0.map fun r => r.length + 1).sum ≤ 1048576 ∧ true = true := ⟨⟨okB_of w0, w1, w2, w3⟩, hb, rfl⟩
end Go.Proofs.Ytjolnjckgoilpaa.Pure
