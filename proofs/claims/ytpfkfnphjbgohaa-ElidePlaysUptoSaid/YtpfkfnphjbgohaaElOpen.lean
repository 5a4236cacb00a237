/-
  Arguments of the laws on elisions, opened: rows of elisions, an elision.
-/
import Derived.Test.YtpfkfnphjbgohaaOpen
import Derived.Test.YtpfkfnphjbgohaaPEax0
import Derived.Lib.SmallJoins
set_option linter.unusedVariables false
namespace Go.Proofs.Ytpfkfnphjbgohaa.Open
open Go.ChangeShapes Go.WideShapes Go.ChangeAt Go.RowKit Go.Deep Go.Joins Go.Proofs.YtpfkfnphjbgohaaW.PrintWords Go.Proofs.Ytpfkfnphjbgohaa.PEa
instance : Inhabited S27 := ⟨z27⟩
section
variable {H : Type} {enc : TypeId × Value → H} {W : World}
theorem cells27 {base : Nat} {spare : Nat → Bool} {held : Bool} {n : Nat} {cs : List Value} {x : DataW H × List MemPlace} (h : DataW.trod enc Try.prog W base spare held n 27 cs = some x) (hl : cs.length = 3) :
    ∃ e : S27, cs = [.string e.f0, .string e.f1, .int .u64 e.f2] ∧ (Lit.int .u64 e.f2).wf = true := by
  match cs, hl with
  | [c0, c1, c2], _ =>
    obtain ⟨xs, m, _, hx, _, hlen, hg⟩ := DataW.trod_struct Try.underlying27 h
    have g0 := hg 0 _ rfl
    have g1 := hg 1 _ rfl
    have g2 := hg 2 _ rfl
    have e9 : Try.prog.cellsOf 9 = 1 := by kernel_rfl
    have e25 : Try.prog.cellsOf 25 = 1 := by kernel_rfl
    have g0 : DataW.trod enc Try.prog W base spare held m 9 ([c0, c1, c2].take (Try.prog.cellsOf 9)) = xs[0]? := g0
    have g1 : DataW.trod enc Try.prog W base spare held m 9 ([c1, c2].take (Try.prog.cellsOf 9)) = xs[1]? := g1
    have g2 : DataW.trod enc Try.prog W base spare held m 25 ([c2].take (Try.prog.cellsOf 25)) = xs[2]? := g2
    rw [e9] at g0 g1
    rw [e25] at g2
    simp only [List.take_succ_cons, List.take_zero] at g0 g1 g2
    have l0 : xs[0]? = some (xs[0]'(by rw [hlen]; decide)) := List.getElem?_eq_getElem _
    have l1 : xs[1]? = some (xs[1]'(by rw [hlen]; decide)) := List.getElem?_eq_getElem _
    have l2 : xs[2]? = some (xs[2]'(by rw [hlen]; decide)) := List.getElem?_eq_getElem _
    obtain ⟨a, ea, _⟩ := DataW.trod_string Try.underlying9 (g0.trans l0)
    obtain ⟨b, eb, _⟩ := DataW.trod_string Try.underlying9 (g1.trans l1)
    obtain ⟨q, eq, _, wq⟩ := DataW.trod_int Try.underlying25 (g2.trans l2)
    simp only [List.cons.injEq, and_true] at ea eb eq
    exact ⟨⟨a, b, q⟩, by rw [ea, eb, eq], wq⟩
/-- A row of elisions, read. -/
theorem recs27 {t : TypeId} {v : Value} {d : DataW H} {p : List MemPlace} (ht : Try.prog.underlying t = some (.slice 27)) (hv : ∃ a len cap, v = .slice a len cap)
    (h : DataW.Trod enc Try.prog W 0 (fun _ => true) true t v d p) : ∃ (A : Option Addr) (c : Nat) (l : List S27), v = .slice A l.length c ∧ l.length ≤ c ∧ Kd.C k27 W A l.length l ∧ (∀ x ∈ l, (Lit.int .u64 x.f2).wf = true) ∧ l.length ≤ Rows.uptoBulk d := by
  obtain ⟨a, len, cap, rfl⟩ := hv
  obtain ⟨fuel, hf⟩ := h
  rcases open_slice ht hf with ⟨hcs, hx⟩ | ⟨a', len', cap', m, n, D, Pl, hcs, _, hl, hm, hmm, hx, hi⟩
  · simp [Value.cells] at hcs
    obtain ⟨rfl, rfl, rfl⟩ := hcs
    refine ⟨none, 0, [], rfl, Nat.le_refl _, ⟨rfl, by simp, fun h => absurd h (Nat.lt_irrefl 0)⟩, ?_, Nat.zero_le _⟩
    intro x hx
    cases hx
  · simp [Value.cells] at hcs
    obtain ⟨rfl, rfl, rfl⟩ := hcs
    simp only [if_true] at hmm
    obtain rfl : m = cap := hmm
    simp only [Prod.mk.injEq] at hx
    obtain ⟨rfl, rfl⟩ := hx
    have e3 : Try.prog.cellsOf 27 = 3 := by kernel_rfl
    obtain ⟨f, hf⟩ := choose_lt (α := S27) (n := len) (p := fun i e => (∀ j u, ([.string e.f0, .string e.f1, .int .u64 e.f2] : List Value)[j]? = some u → W.cell? (a'.add (i * 3 + j)) = some u) ∧ (Lit.int .u64 e.f2).wf = true) (fun i hlt => by
      obtain ⟨cs', h1, h2⟩ := hi i (by omega)
      rw [e3] at h1
      obtain ⟨_, hlen, hat⟩ := World.cells?_some h1
      obtain ⟨e, he, hw⟩ := cells27 h2 hlen
      refine ⟨e, fun j u hu => ?_, hw⟩
      rw [← he] at hu
      have hj : j < 3 := by have := (List.getElem?_eq_some_iff.1 hu).1; omega
      have := hat j hj
      rw [Go.Deep.add_add] at this
      rw [this, hu])
    have el : ((List.range len).map f).length = len := by simp
    refine ⟨some a', m, (List.range len).map f, by rw [el], by rw [el]; exact hl, ⟨rfl, by rw [el]; unfold maxLen at hm; omega, fun _ => ⟨a', rfl, fun j r hj => ?_⟩⟩, fun x hx => ?_, ?_⟩
    · have hjl : j < len := by have := (List.getElem?_eq_some_iff.1 hj).1; rwa [el] at this
      obtain rfl : f j = r := by simp [hjl] at hj; exact hj
      exact ⟨_, rfl, k27_mk W (f j), (hf j hjl).1⟩
    · obtain ⟨j, hj, rfl⟩ := List.mem_map.1 hx
      exact (hf j (List.mem_range.1 hj)).2
    · have := length_le ((List.range len).map D)
      simp only [List.length_map, List.length_range] at this
      simp only [Rows.uptoBulk, el]
      omega
/-- An elision by value. -/
theorem one27 {r : Reach} {b0 : Nat} {v : Value} {d : DataW H} {p : List MemPlace} (hv : Value.okWide Try.prog W r b0 27 v)
    (h : DataW.Trod enc Try.prog W 0 (fun _ => true) true 27 v d p) : ∃ e : S27, v = .agg #[.string e.f0, .string e.f1, .int .u64 e.f2] ∧ (Lit.int .u64 e.f2).wf = true := by
  obtain ⟨v0, v1, v2, y0, y1, y2, n, rfl, _, _, h0, h1, h2⟩ := open_agg3 Try.underlying27 (by kernel_rfl) (by kernel_rfl) hv h
  obtain ⟨a, ea, _⟩ := DataW.trod_string Try.underlying9 h0
  obtain ⟨b, eb, _⟩ := DataW.trod_string Try.underlying9 h1
  obtain ⟨q, eq, _, wq⟩ := DataW.trod_int Try.underlying25 h2
  simp only [List.cons.injEq, and_true] at ea eb eq
  exact ⟨⟨a, b, q⟩, by rw [ea, eb, eq], wq⟩
end
end Go.Proofs.Ytpfkfnphjbgohaa.Open
