/-
  Plain: what the reference's List tells is plain, and elides what its row elides.
-/
import Derived.Test.YtpfkfnphjbgohaaElRList
import Derived.Test.YtpfkfnphjbgohaaElMath
set_option linter.unusedVariables false
set_option linter.unusedSimpArgs false
namespace Go.Proofs.Ytpfkfnphjbgohaa.El
open Go.RowKit Go.Proofs.YtpfkfnphjbgohaaW.PrintWords Go.Proofs.YtpfkfnphjbgohaaW.PrintLast Go.Proofs.YtpfkfnphjbgohaaW.PrintMore Go.Proofs.Ytpfkfnphjbgohaa.PEa
theorem top_spec (b : ByteArray) (q : Int) : ∀ (L : List S27) (s : Bool × Int), ((L.foldl (topStep b) s).1 = true ∧ q ≤ (L.foldl (topStep b) s).2) ↔ ((s.1 = true ∧ q ≤ s.2) ∨ ∃ e ∈ L, e.f0 ≤ b ∧ b < e.f1 ∧ q ≤ e.f2)
  | [], s => by simp
  | e :: L, s => by
    rw [List.foldl_cons, top_spec b q L]
    have hstep : (((topStep b s e).1 = true ∧ q ≤ (topStep b s e).2) ↔ ((s.1 = true ∧ q ≤ s.2) ∨ (e.f0 ≤ b ∧ b < e.f1 ∧ q ≤ e.f2))) := by
      obtain ⟨s1, s2⟩ := s
      unfold topStep
      split
      case isTrue h =>
        cases s1
        · simp [h]
        · by_cases hq : s2 < e.f2
          · simp only [true_and, Bool.true_eq_false, false_or, if_pos hq, h]
            omega
          · simp only [true_and, Bool.true_eq_false, false_or, if_neg hq, h]
            omega
      case isFalse h => exact ⟨.inl, fun g => g.elim id (fun g => absurd ⟨g.1, g.2.1⟩ h)⟩
    rw [hstep, or_assoc]
    refine or_congr Iff.rfl ?_
    constructor
    · rintro (h | ⟨x, hx, h⟩)
      · exact ⟨e, by simp, h⟩
      · exact ⟨x, by simp [hx], h⟩
    · rintro ⟨x, hx, h⟩
      rcases List.mem_cons.mp hx with rfl | hx
      · exact .inl h
      · exact .inr ⟨x, hx, h⟩
theorem top_any (b : ByteArray) : ∀ (L : List S27) (s : Bool × Int), (L.foldl (topStep b) s).1 = true ↔ (s.1 = true ∨ ∃ e ∈ L, e.f0 ≤ b ∧ b < e.f1)
  | [], s => by simp
  | e :: L, s => by
    rw [List.foldl_cons, top_any b L]
    have hstep : (topStep b s e).1 = true ↔ (s.1 = true ∨ (e.f0 ≤ b ∧ b < e.f1)) := by
      unfold topStep
      split
      case isTrue h => simp [h]
      case isFalse h => exact ⟨.inl, fun g => g.elim id (fun g => absurd g h)⟩
    rw [hstep, or_assoc]
    refine or_congr Iff.rfl ?_
    constructor
    · rintro (h | ⟨x, hx, h⟩)
      · exact ⟨e, by simp, h⟩
      · exact ⟨x, by simp [hx], h⟩
    · rintro ⟨x, hx, h⟩
      rcases List.mem_cons.mp hx with rfl | hx
      · exact .inl h
      · exact .inr ⟨x, hx, h⟩
theorem ins_mem {x y : ByteArray} : ∀ {l : List ByteArray}, x ∈ ins l y ↔ x = y ∨ x ∈ l
  | [] => by simp [ins]
  | z :: l => by
    rw [ins]
    split
    · rw [List.mem_cons, ins_mem, List.mem_cons]
      grind
    · split
      · rename_i h; subst h; simp
      · simp
theorem ins_sorted {y : ByteArray} : ∀ {l : List ByteArray}, l.Pairwise (· < ·) → (ins l y).Pairwise (· < ·)
  | [], _ => by simp [ins]
  | z :: l, h => by
    rw [ins]
    rw [List.pairwise_cons] at h
    split
    · rw [List.pairwise_cons]
      refine ⟨fun x hx => ?_, ins_sorted h.2⟩
      rcases ins_mem.mp hx with rfl | hx
      · assumption
      · exact h.1 x hx
    · split
      · exact List.pairwise_cons.mpr h
      · refine List.pairwise_cons.mpr ⟨fun x hx => ?_, List.pairwise_cons.mpr h⟩
        rcases List.mem_cons.mp hx with rfl | hx
        · grind
        · have := h.1 x hx; grind
theorem bnds_aux : ∀ (L : List S27) (b : List ByteArray), b.Pairwise (· < ·) → (L.foldl bnd1 b).Pairwise (· < ·) ∧ ∀ x, x ∈ L.foldl bnd1 b ↔ (x ∈ b ∨ x ∈ ends L)
  | [], b, h => ⟨h, fun x => by simp [ends]⟩
  | e :: L, b, h => by
    rw [List.foldl_cons]
    obtain ⟨h1, h2⟩ := bnds_aux L (bnd1 b e) (ins_sorted (ins_sorted h))
    refine ⟨h1, fun x => ?_⟩
    rw [h2, bnd1, ins_mem, ins_mem]
    simp only [ends, List.flatMap_cons, List.mem_append, List.mem_cons, List.not_mem_nil]
    grind
theorem bnds_sorted (L : List S27) : (bnds L).Pairwise (· < ·) := (bnds_aux L [] List.Pairwise.nil).1
theorem bnds_mem {L : List S27} {x : ByteArray} : x ∈ bnds L ↔ x ∈ ends L := by
  have h := (bnds_aux L [] List.Pairwise.nil).2 x
  rw [bnds, h]
  simp
theorem bAt_eq {B : List ByteArray} {j : Nat} (h : j < B.length) : bAt B j = B[j] := by
  unfold bAt rdOf
  simp [h]
theorem bAt_lt {B : List ByteArray} (hB : B.Pairwise (· < ·)) {i j : Nat} (h : i < j) (hj : j < B.length) : bAt B i < bAt B j := by
  rw [bAt_eq hj, bAt_eq (by omega)]
  exact List.pairwise_iff_getElem.mp hB i j (by omega) hj h
theorem bAt_le {B : List ByteArray} (hB : B.Pairwise (· < ·)) {i j : Nat} (h : i ≤ j) (hj : j < B.length) : bAt B i ≤ bAt B j := by
  rcases Nat.lt_or_ge i j with hlt | hge
  · have := bAt_lt hB hlt hj; grind
  · obtain rfl : i = j := by omega
    grind
theorem mem_bAt {B : List ByteArray} {x : ByteArray} (h : x ∈ B) : ∃ i, i < B.length ∧ bAt B i = x := by
  obtain ⟨i, hi, e⟩ := List.getElem_of_mem h
  exact ⟨i, hi, by rw [bAt_eq hi]; exact e⟩
theorem lay2_layF {xs : List S27} {lo hi : ByteArray} {seq : Int} (h : lo < hi) : lay2 xs lo hi seq = layF xs lo hi seq := by
  unfold layF lay2
  rw [if_pos h]
  rcases List.eq_nil_or_concat xs with rfl | ⟨ys, z, rfl⟩
  · rfl
  · simp
theorem rl_inv {L : List S27} : ∀ j, j < (bnds L).length → Cano (rl L (bnds L) j) ∧ (∀ y ∈ rl L (bnds L) j, y.f1 ≤ bAt (bnds L) j) ∧ ∀ k q, H (rl L (bnds L) j) k q ↔ (H L k q ∧ k < bAt (bnds L) j)
  | 0, h => by
    refine ⟨Cano.nil, by simp [rl], fun k q => ?_⟩
    rw [rl, H_nil]
    constructor
    · exact False.elim
    · rintro ⟨⟨e, he, h0, h1, h2⟩, hk⟩
      obtain ⟨i, hi, hx⟩ := mem_bAt (bnds_mem.mpr (ends_of e he).1)
      have := bAt_le (bnds_sorted L) (Nat.zero_le i) hi
      grind
  | j + 1, h => by
    obtain ⟨h1, h2, h3⟩ := rl_inv (L := L) j (by omega)
    have hs := bnds_sorted L
    have hlt := bAt_lt hs (Nat.lt_succ_self j) h
    have hcell : ∀ k q, bAt (bnds L) j ≤ k → k < bAt (bnds L) (j + 1) → (H L k q ↔ ∃ e ∈ L, e.f0 ≤ bAt (bnds L) j ∧ bAt (bnds L) j < e.f1 ∧ q ≤ e.f2) := by
      intro k q hk0 hk1
      have hz : ∀ e ∈ L, (e.f0 ≤ k ↔ e.f0 ≤ bAt (bnds L) j) ∧ (k < e.f1 ↔ bAt (bnds L) j < e.f1) := by
        intro e he
        obtain ⟨i0, hi0, e0⟩ := mem_bAt (bnds_mem.mpr (ends_of e he).1)
        obtain ⟨i1, hi1, e1⟩ := mem_bAt (bnds_mem.mpr (ends_of e he).2)
        constructor
        · rcases Nat.lt_or_ge j i0 with g | g
          · have := bAt_le hs g hi0; grind
          · have := bAt_le hs g (by omega : j < (bnds L).length); grind
        · rcases Nat.lt_or_ge j i1 with g | g
          · have := bAt_le hs g hi1; grind
          · have := bAt_le hs g (by omega : j < (bnds L).length); grind
      constructor
      · rintro ⟨e, he, g0, g1, g2⟩
        exact ⟨e, he, (hz e he).1.mp g0, (hz e he).2.mp g1, g2⟩
      · rintro ⟨e, he, g0, g1, g2⟩
        exact ⟨e, he, (hz e he).1.mpr g0, (hz e he).2.mpr g1, g2⟩
    rw [rl, rstep]
    have hq := fun q => top_spec (bAt (bnds L) j) q L (false, 0)
    have ha := top_any (bAt (bnds L) j) L (false, 0)
    change ∀ q, ((top L (bAt (bnds L) j)).1 = true ∧ q ≤ (top L (bAt (bnds L) j)).2) ↔ _ at hq
    change (top L (bAt (bnds L) j)).1 = true ↔ _ at ha
    simp only [Bool.false_eq_true, false_and, false_or] at hq ha
    split
    case isTrue ht =>
      rw [lay2_layF hlt]
      refine ⟨lay_cano h1 (fun _ => h2), lay_end_le (fun y hy => by have := h2 y hy; grind) (fun _ => by grind), fun k q => ?_⟩
      rw [lay_H h1 (fun _ => h2), h3]
      have hc := hcell k q
      have hq1 := hq q
      rw [ht] at hq1
      by_cases g0 : bAt (bnds L) j ≤ k
      · by_cases g1 : k < bAt (bnds L) (j + 1)
        · have hc := hc g0 g1
          rw [hc, ← hq1]
          grind
        · grind
      · grind
    case isFalse ht =>
      refine ⟨h1, fun y hy => by have := h2 y hy; grind, fun k q => ?_⟩
      rw [h3]
      have hc := hcell k q
      by_cases g0 : bAt (bnds L) j ≤ k
      · by_cases g1 : k < bAt (bnds L) (j + 1)
        · have hc := hc g0 g1
          have : ¬ H L k q := by
            rw [hc]
            rintro ⟨e, he, p0, p1, _⟩
            exact ht (ha.mpr ⟨e, he, p0, p1⟩)
          grind
        · grind
      · grind
theorem refList_spec (L : List S27) : Cano (refList L) ∧ ∀ k q, H (refList L) k q ↔ H L k q := by
  rcases Nat.eq_zero_or_pos (bnds L).length with h | h
  · have hL : L = [] := by
      rcases L with _ | ⟨e, L⟩
      · rfl
      · have : e.f0 ∈ bnds (e :: L) := bnds_mem.mpr (ends_of e (by simp)).1
        rw [List.eq_nil_of_length_eq_zero h] at this
        exact absurd this (by simp)
    subst hL
    exact ⟨Cano.nil, fun k q => Iff.rfl⟩
  · obtain ⟨h1, h2, h3⟩ := rl_inv (L := L) ((bnds L).length - 1) (by omega)
    refine ⟨h1, fun k q => ?_⟩
    rw [refList, h3]
    constructor
    · exact fun g => g.1
    · intro g
      refine ⟨g, ?_⟩
      obtain ⟨e, he, g0, g1, g2⟩ := g
      obtain ⟨i1, hi1, e1⟩ := mem_bAt (bnds_mem.mpr (ends_of e he).2)
      have := bAt_le (bnds_sorted L) (show i1 ≤ (bnds L).length - 1 by omega) (by omega)
      grind
end Go.Proofs.Ytpfkfnphjbgohaa.El
