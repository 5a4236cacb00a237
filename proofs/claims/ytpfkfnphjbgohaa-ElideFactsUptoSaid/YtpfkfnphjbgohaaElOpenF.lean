/-
  Rows of facts that came in, opened.
-/
import Derived.Test.YtpfkfnphjbgohaaElOpen
set_option linter.unusedVariables false
namespace Go.Proofs.Ytpfkfnphjbgohaa.Open
open Go.ChangeShapes Go.WideShapes Go.ChangeAt Go.RowKit Go.Deep Go.Joins Go.Proofs.YtpfkfnphjbgohaaW.PrintWords Go.Proofs.Ytpfkfnphjbgohaa.PEa
instance : Inhabited S46 := ⟨z46⟩
section
variable {H : Type} {enc : TypeId × Value → H} {W : World}
/-- The bytes of a field, read. -/
theorem bytes1 {fuel : Nat} {v : Value} {x : DataW H × List MemPlace} (h : DataW.trod enc Try.prog W 0 (fun _ => true) true fuel 44 [v] = some x) :
    ∃ (A : Option Addr) (c : Nat) (l : List Int), v = .slice A l.length c ∧ l.length ≤ c ∧ (Kd.int .u8).C W A l.length l ∧ l.length ≤ Rows.uptoBulk x.1 := by
  rcases open_ints Try.underlying44 Try.underlying5 (by kernel_rfl) h with ⟨hcs, hx⟩ | ⟨a, len, cap, zs, hcs, _, hl, hm, hz, hx, hcell, hwz⟩
  · simp only [List.cons.injEq, and_true] at hcs
    subst hcs
    exact ⟨none, 0, [], rfl, Nat.le_refl _, kd_nil _, Nat.zero_le _⟩
  · simp only [List.cons.injEq, and_true] at hcs
    subst hcs hx
    simp only [if_true] at hz
    have e : (zs.take len).length = len := by simp; omega
    refine ⟨some a, cap, zs.take len, by rw [e], by rw [e]; exact hl, kd_ints (by omega) (by omega) hcell, ?_⟩
    have := length_le (lits (H := H) .u8 (zs.take len))
    rw [lits_length] at this
    simp only [Rows.uptoBulk]
    omega
theorem cells46 {n : Nat} {cs : List Value} {x : DataW H × List MemPlace} (h : DataW.trod enc Try.prog W 0 (fun _ => true) true n 46 cs = some x) (hl : cs.length = 3) :
    ∃ (e : S46) (A : Option Addr) (c : Nat), cs = [.string e.f0, .int .u64 e.f1, .slice A e.f2.length c] ∧ e.f2.length ≤ c ∧ (Kd.int .u8).C W A e.f2.length e.f2 ∧ e.f2.length ≤ Rows.uptoBulk x.1 := by
  match cs, hl with
  | [c0, c1, c2], _ =>
    obtain ⟨xs, m, _, hx, _, hlen, hg⟩ := DataW.trod_struct Try.underlying46 h
    have g0 := hg 0 _ rfl
    have g1 := hg 1 _ rfl
    have g2 := hg 2 _ rfl
    have e9 : Try.prog.cellsOf 9 = 1 := by kernel_rfl
    have e25 : Try.prog.cellsOf 25 = 1 := by kernel_rfl
    have e44 : Try.prog.cellsOf 44 = 1 := by kernel_rfl
    have g0 : DataW.trod enc Try.prog W 0 (fun _ => true) true m 9 ([c0, c1, c2].take (Try.prog.cellsOf 9)) = xs[0]? := g0
    have g1 : DataW.trod enc Try.prog W 0 (fun _ => true) true m 25 ([c1, c2].take (Try.prog.cellsOf 25)) = xs[1]? := g1
    have g2 : DataW.trod enc Try.prog W 0 (fun _ => true) true m 44 ([c2].take (Try.prog.cellsOf 44)) = xs[2]? := g2
    rw [e9] at g0
    rw [e25] at g1
    rw [e44] at g2
    simp only [List.take_succ_cons, List.take_zero] at g0 g1 g2
    have hl3 : xs.length = 3 := hlen
    have l0 : xs[0]? = some (xs[0]'(by omega)) := List.getElem?_eq_getElem _
    have l1 : xs[1]? = some (xs[1]'(by omega)) := List.getElem?_eq_getElem _
    have l2 : xs[2]? = some (xs[2]'(by omega)) := List.getElem?_eq_getElem _
    obtain ⟨a, ea, _⟩ := DataW.trod_string Try.underlying9 (g0.trans l0)
    obtain ⟨q, eq, _, wq⟩ := DataW.trod_int Try.underlying25 (g1.trans l1)
    obtain ⟨A, c, l, ev, hc, hC, hb⟩ := bytes1 (g2.trans l2)
    simp only [List.cons.injEq, and_true] at ea eq
    refine ⟨⟨a, q, l⟩, A, c, by rw [ea, eq, ev], hc, hC, ?_⟩
    have hm : (xs[2]'(by omega)).1 ∈ xs.map (·.1) := List.mem_map.2 ⟨_, List.getElem_mem _, rfl⟩
    have := part_le hm
    rw [hx]
    simp only [Rows.uptoBulk]
    show l.length ≤ _
    omega
/-- A row of facts, read. -/
theorem recs46 {t : TypeId} {v : Value} {d : DataW H} {p : List MemPlace} (ht : Try.prog.underlying t = some (.slice 46)) (hv : ∃ a len cap, v = .slice a len cap)
    (h : DataW.Trod enc Try.prog W 0 (fun _ => true) true t v d p) : ∃ (A : Option Addr) (c : Nat) (l : List S46), v = .slice A l.length c ∧ l.length ≤ c ∧ Kd.C k46 W A l.length l ∧ (∀ x ∈ l, x.f2.length ≤ Rows.uptoBulk d) ∧ l.length ≤ Rows.uptoBulk d := by
  obtain ⟨a, len, cap, rfl⟩ := hv
  obtain ⟨fuel, hf⟩ := h
  rcases open_slice ht hf with ⟨hcs, hx⟩ | ⟨a', len', cap', m, n, D, Pl, hcs, _, hl, hm, hmm, hx, hi⟩
  · simp [Value.cells] at hcs
    obtain ⟨rfl, rfl, rfl⟩ := hcs
    refine ⟨none, 0, [], rfl, Nat.le_refl _, ⟨rfl, by simp, fun h => absurd h (Nat.lt_irrefl 0)⟩, ?_, Nat.zero_le _⟩
    intro x hx
    cases hx
  · simp [Value.cells] at hcs
    obtain ⟨rfl, rfl, rfl⟩ := hcs
    simp only [if_true] at hmm
    obtain rfl : m = cap := hmm
    simp only [Prod.mk.injEq] at hx
    obtain ⟨rfl, rfl⟩ := hx
    have e3 : Try.prog.cellsOf 46 = 3 := by kernel_rfl
    obtain ⟨f, hf⟩ := choose_lt (α := S46) (n := len) (p := fun i e => (∃ (A : Option Addr) (c : Nat), e.f2.length ≤ c ∧ (Kd.int .u8).C W A e.f2.length e.f2 ∧ ∀ j u, ([.string e.f0, .int .u64 e.f1, .slice A e.f2.length c] : List Value)[j]? = some u → W.cell? (a'.add (i * 3 + j)) = some u) ∧ e.f2.length ≤ Rows.uptoBulk (D i)) (fun i hlt => by
      obtain ⟨cs', h1, h2⟩ := hi i (by omega)
      rw [e3] at h1
      obtain ⟨_, hlen, hat⟩ := World.cells?_some h1
      obtain ⟨e, A, c, he, hc, hC, hb⟩ := cells46 h2 hlen
      refine ⟨e, ⟨A, c, hc, hC, fun j u hu => ?_⟩, hb⟩
      rw [← he] at hu
      have hj : j < 3 := by have := (List.getElem?_eq_some_iff.1 hu).1; omega
      have := hat j hj
      rw [Go.Deep.add_add] at this
      rw [this, hu])
    have el : ((List.range len).map f).length = len := by simp
    refine ⟨some a', m, (List.range len).map f, by rw [el], by rw [el]; exact hl, ⟨rfl, by rw [el]; unfold maxLen at hm; omega, fun _ => ⟨a', rfl, fun j r hj => ?_⟩⟩, fun x hx => ?_, ?_⟩
    · have hjl : j < len := by have := (List.getElem?_eq_some_iff.1 hj).1; rwa [el] at this
      obtain rfl : f j = r := by simp [hjl] at hj; exact hj
      obtain ⟨A, c, hc, hC, hcell⟩ := (hf j hjl).1
      exact ⟨_, rfl, k46_mk W (f j) hc hC, hcell⟩
    · obtain ⟨j, hj, rfl⟩ := List.mem_map.1 hx
      have h1 := (hf j (List.mem_range.1 hj)).2
      have h2 : D j ∈ (List.range len).map D := List.mem_map.2 ⟨j, hj, rfl⟩
      have := part_le h2
      simp only [Rows.uptoBulk]
      omega
    · have := length_le ((List.range len).map D)
      simp only [List.length_map, List.length_range] at this
      simp only [Rows.uptoBulk, el]
      omega
end
end Go.Proofs.Ytpfkfnphjbgohaa.Open
