/-
  A writer's acts that came in, opened.
-/
import Derived.Test.YtjnicooboiijgaaOpen
import Derived.Test.YtjnicooboiijgaaPSgx0
import Derived.Lib.SmallJoins
set_option linter.unusedVariables false
namespace Go.Proofs.Ytjnicooboiijgaa.Open
open Go.ChangeShapes Go.WideShapes Go.ChangeAt Go.RowKit Go.Deep Go.Joins Go.Proofs.YtjnicooboiijgaaW.PrintWords Go.Proofs.Ytjnicooboiijgaa.PSg
instance : Inhabited S41 := ⟨z41⟩
section
variable {H : Type} {enc : TypeId × Value → H} {W : World}
/-- The bytes of a field, read. -/
theorem bytes1 {fuel : Nat} {v : Value} {x : DataW H × List MemPlace} (h : DataW.trod enc Try.prog W 0 (fun _ => true) true fuel 37 [v] = some x) :
    ∃ (A : Option Addr) (c : Nat) (l : List Int), v = .slice A l.length c ∧ l.length ≤ c ∧ (Kd.int .u8).C W A l.length l ∧ (∀ x ∈ l, (Lit.int .u8 x).wf = true) ∧ l.length ≤ Rows.uptoBulk x.1 := by
  rcases open_ints Try.underlying37 Try.underlying5 (by kernel_rfl) h with ⟨hcs, hx⟩ | ⟨a, len, cap, zs, hcs, _, hl, hm, hz, hx, hcell, hwz⟩
  · simp only [List.cons.injEq, and_true] at hcs
    subst hcs
    exact ⟨none, 0, [], rfl, Nat.le_refl _, kd_nil _, (fun x hx => by cases hx), Nat.zero_le _⟩
  · simp only [List.cons.injEq, and_true] at hcs
    subst hcs hx
    simp only [if_true] at hz
    have e : (zs.take len).length = len := by simp; omega
    refine ⟨some a, cap, zs.take len, by rw [e], by rw [e]; exact hl, kd_ints (by omega) (by omega) hcell, (fun x hx => hwz x (List.mem_of_mem_take hx)), ?_⟩
    have := length_le (lits (H := H) .u8 (zs.take len))
    rw [lits_length] at this
    simp only [Rows.uptoBulk]
    omega
theorem cells41 {n : Nat} {cs : List Value} {x : DataW H × List MemPlace} (h : DataW.trod enc Try.prog W 0 (fun _ => true) true n 41 cs = some x) (hl : cs.length = 2) :
    ∃ (e : S41) (A : Option Addr) (c : Nat), cs = [.slice A e.f0.length c, .bool e.f1] ∧ e.f0.length ≤ c ∧ (Kd.int .u8).C W A e.f0.length e.f0 ∧ (∀ x ∈ e.f0, (Lit.int .u8 x).wf = true) ∧ e.f0.length ≤ Rows.uptoBulk x.1 := by
  match cs, hl with
  | [c0, c1], _ =>
    obtain ⟨xs, m, _, hx, _, hlen, hg⟩ := DataW.trod_struct Try.underlying41 h
    have g0 := hg 0 _ rfl
    have g1 := hg 1 _ rfl
    have e37 : Try.prog.cellsOf 37 = 1 := by kernel_rfl
    have e4 : Try.prog.cellsOf 4 = 1 := by kernel_rfl
    have g0 : DataW.trod enc Try.prog W 0 (fun _ => true) true m 37 ([c0, c1].take (Try.prog.cellsOf 37)) = xs[0]? := g0
    have g1 : DataW.trod enc Try.prog W 0 (fun _ => true) true m 4 ([c1].take (Try.prog.cellsOf 4)) = xs[1]? := g1
    rw [e37] at g0
    rw [e4] at g1
    simp only [List.take_succ_cons, List.take_zero] at g0 g1
    have hl2 : xs.length = 2 := hlen
    have l0 : xs[0]? = some (xs[0]'(by omega)) := List.getElem?_eq_getElem _
    have l1 : xs[1]? = some (xs[1]'(by omega)) := List.getElem?_eq_getElem _
    obtain ⟨A, c, l, ev, hc, hC, hw, hb⟩ := bytes1 (g0.trans l0)
    obtain ⟨q, eq, _⟩ := DataW.trod_bool Try.underlying4 (g1.trans l1)
    simp only [List.cons.injEq, and_true] at eq
    refine ⟨⟨l, q⟩, A, c, by rw [ev, eq], hc, hC, hw, ?_⟩
    have hm : (xs[0]'(by omega)).1 ∈ xs.map (·.1) := List.mem_map.2 ⟨_, List.getElem_mem _, rfl⟩
    have := part_le hm
    rw [hx]
    simp only [Rows.uptoBulk]
    show l.length ≤ _
    omega
set_option maxRecDepth 100000 in
/-- A row of acts, read. -/
theorem acts41 {t : TypeId} {v : Value} {d : DataW H} {p : List MemPlace} (ht : Try.prog.underlying t = some (.slice 41)) (hv : ∃ a len cap, v = .slice a len cap)
    (h : DataW.Trod enc Try.prog W 0 (fun _ => true) true t v d p) : ∃ (A : Option Addr) (c : Nat) (l : List S41), v = .slice A l.length c ∧ l.length ≤ c ∧ Kd.C k41 W A l.length l ∧ (∀ x ∈ l, x.f0.length ≤ Rows.uptoBulk d ∧ ∀ z ∈ x.f0, (Lit.int .u8 z).wf = true) ∧ l.length ≤ Rows.uptoBulk d := by
  obtain ⟨a, len, cap, rfl⟩ := hv
  obtain ⟨fuel, hf⟩ := h
  rcases open_slice ht hf with ⟨hcs, hx⟩ | ⟨a', len', cap', m, n, D, Pl, hcs, _, hl, hm, hmm, hx, hi⟩
  · simp [Value.cells] at hcs
    obtain ⟨rfl, rfl, rfl⟩ := hcs
    refine ⟨none, 0, [], rfl, Nat.le_refl _, ⟨rfl, by simp, fun h => absurd h (Nat.lt_irrefl 0)⟩, ?_, Nat.zero_le _⟩
    intro x hx
    cases hx
  · simp [Value.cells] at hcs
    obtain ⟨rfl, rfl, rfl⟩ := hcs
    simp only [if_true] at hmm
    obtain rfl : m = cap := hmm
    simp only [Prod.mk.injEq] at hx
    obtain ⟨rfl, rfl⟩ := hx
    have e3 : Try.prog.cellsOf 41 = 2 := by kernel_rfl
    obtain ⟨f, hf⟩ := choose_lt (α := S41) (n := len) (p := fun i e => (∃ (A : Option Addr) (c : Nat), e.f0.length ≤ c ∧ (Kd.int .u8).C W A e.f0.length e.f0 ∧ ∀ j u, ([.slice A e.f0.length c, .bool e.f1] : List Value)[j]? = some u → W.cell? (a'.add (i * 2 + j)) = some u) ∧ (e.f0.length ≤ Rows.uptoBulk (D i) ∧ ∀ z ∈ e.f0, (Lit.int .u8 z).wf = true)) (fun i hlt => by
      obtain ⟨cs', h1, h2⟩ := hi i (by omega)
      rw [e3] at h1
      obtain ⟨_, hlen, hat⟩ := World.cells?_some h1
      obtain ⟨e, A, c, he, hc, hC, hw, hb⟩ := cells41 h2 hlen
      refine ⟨e, ⟨A, c, hc, hC, fun j u hu => ?_⟩, hb, hw⟩
      rw [← he] at hu
      have hj : j < 2 := by have := (List.getElem?_eq_some_iff.1 hu).1; omega
      have := hat j hj
      rw [Go.Deep.add_add] at this
      rw [this, hu])
    have el : ((List.range len).map f).length = len := by simp
    refine ⟨some a', m, (List.range len).map f, by rw [el], by rw [el]; exact hl, ⟨rfl, by rw [el]; unfold maxLen at hm; omega, fun _ => ⟨a', rfl, fun j r hj => ?_⟩⟩, fun x hx => ?_, ?_⟩
    · have hjl : j < len := by have := (List.getElem?_eq_some_iff.1 hj).1; rwa [el] at this
      obtain rfl : f j = r := by simp [hjl] at hj; exact hj
      obtain ⟨A, c, hc, hC, hcell⟩ := (hf j hjl).1
      exact ⟨_, rfl, k41_mk W (f j) hc hC, hcell⟩
    · obtain ⟨j, hj, rfl⟩ := List.mem_map.1 hx
      have h1 := (hf j (List.mem_range.1 hj)).2.1
      refine ⟨?_, (hf j (List.mem_range.1 hj)).2.2⟩
      have h2 : D j ∈ (List.range len).map D := List.mem_map.2 ⟨j, hj, rfl⟩
      have := part_le h2
      simp only [Rows.uptoBulk]
      omega
    · have := length_le ((List.range len).map D)
      simp only [List.length_map, List.length_range] at this
      simp only [Rows.uptoBulk, el]
      omega
end
end Go.Proofs.Ytjnicooboiijgaa.Open
