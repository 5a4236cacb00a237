/-
  GfMakes: the program's units and pairs are the reference's; which matrices may be, too.
-/
import Derived.Test.YtgoacbbaiigpeaaGbFacts
namespace Go.Proofs.Ytgoacbbaiigpeaa.Pure
open Go.RowKit Go.Proofs.Ytgoacbbaiigpeaa.PGa Go.Proofs.Ytgoacbbaiigpeaa.PGb Go.Proofs.YtgoacbbaiigpeaaW.PrintWords Go.Proofs.YtgoacbbaiigpeaaW.PrintLast Go.Proofs.Ytgoacbbaiigpeaa.GbFacts

theorem unit_rows {a : Int} {x : List (List Int) × Int} (h : Gf.unitF a = some x) : x.1.length ≤ 1048576 ∧ x.1.length ≤ 1000 := by
  unfold Gf.unitF at h
  split at h
  · obtain rfl := Option.some.inj h; simp
  · split at h
    · obtain rfl := Option.some.inj h; simp
    · obtain rfl := Option.some.inj h; simp only [matrix_length]; omega
theorem unit_some (a : Int) : ∃ x, Gf.unitF a = some x := by
  unfold Gf.unitF
  split
  · exact ⟨_, rfl⟩
  · split
    · exact ⟨_, rfl⟩
    · exact ⟨_, rfl⟩
theorem pairs_rows {a : Int} {x : List (List Int) × Int} (h : gf_Pairs.f a = some x) : x.1.length ≤ 1048576 ∧ x.1.length ≤ 1000 := by
  unfold gf_Pairs.f at h
  split at h
  · obtain rfl := Option.some.inj h; simp
  · split at h
    · obtain rfl := Option.some.inj h; simp
    · obtain rfl := Option.some.inj h; simp only [matrix_length]; omega
theorem pairs_some (a : Int) : ∃ x, gf_Pairs.f a = some x := by
  unfold gf_Pairs.f
  split
  · exact ⟨_, rfl⟩
  · split
    · exact ⟨_, rfl⟩
    · exact ⟨_, rfl⟩
theorem makes_j0 (k : Nat) (x1 : Int) (x2 : List (List Int)) (hk : 2000 ≤ k) : flintlaw5_GfMakes.j0 k x1 x2 false = some true := by
  obtain ⟨k, rfl⟩ : ∃ m, k = m + 1 := ⟨k - 1, by omega⟩
  simp only [flintlaw5_GfMakes.j0]
  obtain ⟨p, hp⟩ := pairs_some x1
  have hr := pairs_rows hp
  rw [if_neg (by decide), pairs_ok k x1 (by omega), hp]
  simp only [Option.bind_some]
  rw [same_refl k p.1 hr.1 (by omega)]
  simp only [Option.bind_some, if_true]
  rw [right_ok k x2 (by omega)]
  simp [gf_Right.f]
theorem GfMakes (a0 a1 : Int) (l2 : List (List Int)) (_ : (Lit.int .i64 a0).wf = true) (_ : (Lit.int .i64 a1).wf = true) (_ : ∀ r ∈ l2, ∀ x ∈ r, (Lit.int .u8 x).wf = true) (hb : (l2.map fun r => r.length + 1).sum ≤ 1048576) : ∃ k, flintlaw5_GfMakes.f k a0 a1 l2 = some true := by
  refine ⟨2000000, ?_⟩
  obtain ⟨u, hu⟩ := unit_some a0
  have hr := unit_rows hu
  unfold flintlaw5_GfMakes.f
  rw [GaFacts.known_ok _ (by omega), few_ok _ l2 hb (by omega), unit_ok _ a0 (by omega)]
  simp only [Option.bind_some, if_true, gf_Unit.f, hu]
  rw [same_refl _ u.1 hr.1 (by omega)]
  simp only [Option.bind_some, if_true, bne_self_eq_false]
  rw [makes_j0 _ a1 l2 (by omega)]
  split <;> rfl
end Go.Proofs.Ytgoacbbaiigpeaa.Pure
