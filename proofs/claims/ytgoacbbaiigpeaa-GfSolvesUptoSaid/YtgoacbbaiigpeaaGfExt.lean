/-
  gf.Matrix.Times, as its callers see it.
-/
import Derived.Test.YtgoacbbaiigpeaaGfInv3
import Derived.Test.YtgoacbbaiigpeaaGfTake
set_option linter.unusedVariables false
set_option linter.unusedSimpArgs false
namespace Go.Proofs.Ytgoacbbaiigpeaa.Gf
open Go.RowKit Go.Proofs.YtgoacbbaiigpeaaW.PrintWords Go.Proofs.YtgoacbbaiigpeaaW.PrintLast Go.Proofs.Ytgoacbbaiigpeaa.PGa

/-- What it tells; none where an element is no byte. -/
def timesF (l o : List (List Int)) : Option (List (List Int) × Int) :=
  if okB l = true ∧ okB o = true then
    (if rightB l = true ∧ rightB o = true ∧ (row l 0).length = o.length then some (matrix l.length (row o 0).length (fun i j => ((prod l o i j : Nat) : Int)), 0) else some ([], 1))
  else none
theorem times_calls (A0 : Option Addr) (c0 : Nat) (l0 : List (List Int)) (A1 : Option Addr) (c1 : Nat) (l1 : List (List Int)) (r1 : List (List Int)) (r2 : Int) (w : World) (hr0 : Kd.C (Kd.slice 5 (Kd.int .u8)) w A0 l0.length l0) (hr1 : Kd.C (Kd.slice 5 (Kd.int .u8)) w A1 l1.length l1) (h : timesF l0 l1 = some (r1, r2)) :
    Calls Try.prog 31 #[.slice A0 l0.length c0, .slice A1 l1.length c1] w fun e w' => ∃ v0_ : Value, e = .returned (.tuple #[v0_, .int .i64 r2]) ∧ Kd.S (Kd.slice 5 (Kd.int .u8)) 53 w' w.heap.size (fun _ => True) v0_ r1 ∧ Below w.heap.size w w' := by
  unfold timesF at h
  by_cases ok : okB l0 = true ∧ okB l1 = true
  · rw [if_pos ok] at h
    by_cases hm : rightB l0 = true ∧ rightB l1 = true ∧ (row l0 0).length = l1.length
    · rw [if_pos hm] at h
      simp only [Option.some.injEq, Prod.mk.injEq] at h
      obtain ⟨rfl, rfl⟩ := h
      exact times31_ok w l0 l1 A0 A1 c0 c1 hr0 hr1 ok.1 ok.2 hm.1 hm.2.1 hm.2.2
    · rw [if_neg hm] at h
      simp only [Option.some.injEq, Prod.mk.injEq] at h
      obtain ⟨rfl, rfl⟩ := h
      have key : Calls Try.prog 31 #[.slice A0 l0.length c0, .slice A1 l1.length c1] w fun e w' => e = .returned (.tuple #[.slice none 0 0, .int .i64 1]) ∧ Below w.heap.size w w' := by
        by_cases e : rightB l0 = true
        · by_cases e2 : rightB l1 = true
          · exact times31_yes w l0 l1 A0 A1 c0 c1 hr0 hr1 e e2 (fun h => hm ⟨e, e2, h⟩)
          · exact times31_no2 w l0 l1 A0 A1 c0 c1 hr0 hr1 e (by simpa using e2)
        · exact times31_no1 w l0 l1 A0 A1 c0 c1 hr0 (by simpa using e)
      refine key.mono ?_
      rintro e w' ⟨rfl, hb⟩
      exact ⟨_, rfl, Kd.S_nil _ _ _ _ _, hb⟩
  · rw [if_neg ok] at h; cases h
end Go.Proofs.Ytgoacbbaiigpeaa.Gf
