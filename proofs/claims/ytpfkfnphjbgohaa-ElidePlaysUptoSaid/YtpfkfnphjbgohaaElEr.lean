/-
  The reference's set.
-/
import Derived.Test.YtpfkfnphjbgohaaElRAdd
set_option linter.unusedVariables false
set_option linter.unusedSimpArgs false
namespace Go.Proofs.Ytpfkfnphjbgohaa.El
open Go.RowKit Go.Proofs.YtpfkfnphjbgohaaW.PrintWords Go.Proofs.YtpfkfnphjbgohaaW.PrintLast Go.Proofs.YtpfkfnphjbgohaaW.PrintMore Go.Proofs.Ytpfkfnphjbgohaa.PEa
/-- The reference's set, made since w0. -/
def Er (w0 W : World) (g : Nat) (xs : List S27) : Prop :=
  ∃ v, W.heap[g]? = some (.cells #[v] 42 (0, 0)) ∧ Kd.R k27 27 W w0.heap.size (fun _ => True) v xs ∧ Below w0.heap.size w0 W ∧ w0.heap.size ≤ g
theorem Er.below {w0 W : World} {g : Nat} {xs : List S27} (h : Er w0 W g xs) : Below w0.heap.size w0 W := by
  obtain ⟨v, h1, h2, h3, h4⟩ := h
  exact h3
theorem Er.then_ {w0 W W' : World} {g : Nat} {xs : List S27} (h : Er w0 W g xs) (hb : Below W.heap.size W W') : Er w0 W' g xs := by
  obtain ⟨v, h1, h2, h3, h4⟩ := h
  exact ⟨v, blk_below h1 hb, Kd.R_below h2 hb, below_then h3 h3.size hb, h4⟩
theorem Er.open_ {w0 W : World} {g : Nat} {xs : List S27} (h : Er w0 W g xs) : ∃ A c, W.heap[g]? = some (.cells #[.slice A xs.length c] 42 (0, 0)) ∧ Kd.C k27 W A xs.length xs ∧ xs.length ≤ c := by
  obtain ⟨v, h1, h2, h3, h4⟩ := h
  obtain ⟨A, c, rfl, hc, hC⟩ := Kd.R_reads h2
  exact ⟨A, c, h1, hC, hc⟩
theorem raddE {w0 W : World} {g : Nat} {xs : List S27} {e : S27} (h : Er w0 W g xs) (hl : xs.length ≤ 1000000) (he : e.f0 < e.f1) :
    Calls Try.prog 16 #[.pointer (some ⟨g, 0, none⟩), .agg #[.string e.f0, .string e.f1, .int .u64 e.f2]] W fun r w' => r = .returned (.int .i64 0) ∧ Er w0 w' g (xs ++ [e]) := by
  obtain ⟨v, h1, h2, h3, h4⟩ := h
  obtain ⟨A, n, c, rfl⟩ := R_slice3 h2
  refine (radd16 W w0.heap.size g A n c xs e h1 h2 h4 hl he).mono ?_
  rintro r w' ⟨rfl, v', a, b, _, hB, _⟩
  exact ⟨rfl, v', a, b, h3.trans hB, h4⟩
theorem take_next {l : List S27} {k : Nat} {x : S27} (hk : k < l.length) (hx : rd_T27 l k = x) : l.take (k + 1) = l.take k ++ [x] := by
  have hx2 : l[k] = x := by rw [← hx]; simp [rd_T27, hk]
  rw [List.take_succ_eq_append_getElem hk, hx2]
end Go.Proofs.Ytpfkfnphjbgohaa.El
