/-
  gf.Matrix.Inverse, as its callers see it.
-/
import Derived.Test.YtgoacbbaiigpeaaGfInv
import Derived.Test.YtgoacbbaiigpeaaGfInv2
set_option linter.unusedVariables false
set_option linter.unusedSimpArgs false
namespace Go.Proofs.Ytgoacbbaiigpeaa.Gf
open Go.RowKit Go.Proofs.YtgoacbbaiigpeaaW.PrintWords Go.Proofs.YtgoacbbaiigpeaaW.PrintLast Go.Proofs.Ytgoacbbaiigpeaa.PGa

theorem Grid.owned {wr : World} {g n base : Nat} {b : Nat → Nat} {f : Nat → Nat → Nat} (h : Grid wr g b n f) (hn : n ≤ 255) (hg : base ≤ g) (hb : ∀ j, j < n → base ≤ b j) :
    Kd.S (Kd.slice 5 (Kd.int .u8)) 53 wr base (fun _ => True) (.slice (some ⟨g, 0, none⟩) n n) (matrix n n fun i j => ((f i j : Nat) : Int)) := by
  have hne : ∀ j, j < n → b j ≠ g := fun j hj => (type_ne h.top (h.row j hj) (by decide)).symm
  refine ⟨fun k => ((List.range n).find? fun j => b j == k).getD 0, fun _ _ => trivial, (topCells n n n b).toList, ⟨?_, .inr ⟨g, n, topCells n n n b, ?_, hg, h.top, ?_, ?_, ?_, ?_⟩⟩, ?_, fun j p hj => ?_⟩
  · simp [topCells, matrix, Kd.tag, Kd.slice]
  · simp [matrix]
  · simp [matrix]
  · unfold maxLen; omega
  · simp [topCells, Kd.tag, Kd.slice]
  · rw [List.take_of_length_le (by simp [topCells, matrix, Kd.tag, Kd.slice])]
  · simp [topCells, matrix, Kd.tag, Kd.slice]
  · have hz : (matrix n n fun i j => ((f i j : Nat) : Int)).zipIdx[j]? = some p := hj
    rw [List.getElem?_zipIdx] at hz
    obtain ⟨r, hr, rfl⟩ := Option.map_eq_some_iff.1 hz
    have hjn : j < n := by
      have := (List.getElem?_eq_some_iff.1 hr).1
      simpa [matrix] using this
    have hr2 : r = (List.range n).map fun q => ((f j q : Nat) : Int) := by
      simp [matrix, hjn] at hr
      exact hr.symm
    subst hr2
    have hcs : (((topCells n n n b).toList.drop (j * 1)).take 1) = [.slice (some ⟨b j, 0, none⟩) n n] := by
      have hlen : j < (topCells n n n b).toList.length := by simp [topCells, hjn]
      rw [Nat.mul_one, List.drop_eq_getElem_cons hlen]
      simp [topCells, hjn]
    show ∃ v, (((topCells n n n b).toList.drop (j * 1)).take 1) = [v] ∧ _
    refine ⟨_, hcs, Kd.R_of_own ⟨?_, .inr ⟨b j, n, byC n (f j), ?_, hb j hjn, h.row j hjn, ?_, ?_, ?_, ?_⟩⟩ ?_⟩
    · simp [encs]
    · simp
    · simp
    · unfold maxLen; omega
    · simp [byC]
    · rw [List.take_of_length_le (by simp [byC]), ← rowCells_byC, rowCells_nums]
      rfl
    · intro k hk
      have hk2 : b j = k := by simpa [Value.ownBlock] using hk
      subst hk2
      refine ⟨⟨trivial, ?_⟩, ?_⟩
      · have := hne j hjn
        simp only [Value.ownBlock]
        intro e
        injection e with e
        omega
      · show (List.find? _ _).getD 0 = 0 + j
        have : (List.range n).find? (fun q => b q == b j) = some j := by
          rw [List.find?_eq_some_iff_getElem]
          refine ⟨by simp, j, by simpa using hjn, by simp, fun q hq => ?_⟩
          simp
          intro e
          have := h.inj q j (by omega) hjn e
          omega
        rw [this]
        simp
/-- What it tells; none where an element is no byte. -/
def invF (l : List (List Int)) : Option (List (List Int) × Int) :=
  if okB l = true then
    (if rightB l = true ∧ l.length = (row l 0).length then
      (match gj l.length l.length (byt l, kronN) with
        | none => some ([], 4)
        | some s => some (matrix l.length l.length (fun i j => ((s.2 i j : Nat) : Int)), 0))
    else some ([], 1))
  else none
theorem inv_calls (A0 : Option Addr) (c0 : Nat) (l0 : List (List Int)) (r1 : List (List Int)) (r2 : Int) (w : World) (hr0 : Kd.C (Kd.slice 5 (Kd.int .u8)) w A0 l0.length l0) (h : invF l0 = some (r1, r2)) :
    Calls Try.prog 30 #[.slice A0 l0.length c0] w fun e w' => ∃ v0_ : Value, e = .returned (.tuple #[v0_, .int .i64 r2]) ∧ Kd.S (Kd.slice 5 (Kd.int .u8)) 53 w' w.heap.size (fun _ => True) v0_ r1 ∧ Below w.heap.size w w' := by
  unfold invF at h
  by_cases ok : okB l0 = true
  · rw [if_pos ok] at h
    by_cases hm : rightB l0 = true ∧ l0.length = (row l0 0).length
    · rw [if_pos hm] at h
      refine (inv30_ok w l0 A0 c0 l0.length hr0 ok hm.1 rfl hm.2.symm).mono ?_
      rintro e w' (⟨hg, rfl, hb⟩ | ⟨B5, B6, ga, go, ba, bo, s, hg, rfl, hS⟩)
      · rw [hg] at h
        simp only [Option.some.injEq, Prod.mk.injEq] at h
        obtain ⟨rfl, rfl⟩ := h
        exact ⟨_, rfl, Kd.S_nil _ _ _ _ _, hb⟩
      · rw [hg] at h
        simp only [Option.some.injEq, Prod.mk.injEq] at h
        obtain ⟨rfl, rfl⟩ := h
        have hn : l0.length ≤ 255 := by have := hm.1; simp [rightB] at this; omega
        exact ⟨_, rfl, hS.o.owned hn hS.lo.1 hS.lo.2, hS.below⟩
    · rw [if_neg hm] at h
      simp only [Option.some.injEq, Prod.mk.injEq] at h
      obtain ⟨rfl, rfl⟩ := h
      by_cases e : rightB l0 = true
      · refine (inv30_no2 w l0 A0 c0 hr0 e (fun h => hm ⟨e, h⟩)).mono ?_
        rintro e w' ⟨rfl, hb⟩
        exact ⟨_, rfl, Kd.S_nil _ _ _ _ _, hb⟩
      · refine (inv30_no1 w l0 A0 c0 hr0 (by simpa using e)).mono ?_
        rintro e w' ⟨rfl, hb⟩
        exact ⟨_, rfl, Kd.S_nil _ _ _ _ _, hb⟩
  · rw [if_neg ok] at h; cases h
end Go.Proofs.Ytgoacbbaiigpeaa.Gf
