/-
  GfSolves: an inverse undoes a matrix.
-/
import Derived.Test.YtgoacbbaiigpeaaPGdx1
import Derived.Test.YtgoacbbaiigpeaaGbFacts
set_option linter.unusedVariables false
namespace Go.Proofs.Ytgoacbbaiigpeaa.Pure
open Go.RowKit Go.Proofs.Ytgoacbbaiigpeaa Go.Proofs.Ytgoacbbaiigpeaa.PGa Go.Proofs.Ytgoacbbaiigpeaa.PGb Go.Proofs.Ytgoacbbaiigpeaa.PGd Go.Proofs.YtgoacbbaiigpeaaW.PrintWords Go.Proofs.YtgoacbbaiigpeaaW.PrintLast Go.Proofs.Ytgoacbbaiigpeaa.GbFacts
open Go.Proofs.Ytgoacbbaiigpeaa.Gf

theorem wf_byte {x : Int} (h : (Lit.int .u8 x).wf = true) : 0 ≤ x ∧ x < 256 := by
  obtain ⟨n, hn, rfl⟩ := GaFacts.byte h
  omega
theorem okB_of {l : List (List Int)} (h : ∀ r ∈ l, ∀ x ∈ r, (Lit.int .u8 x).wf = true) : okB l = true := by
  unfold okB
  simp only [List.all_eq_true]
  intro r hr x hx
  have := wf_byte (h r hr x hx)
  simp [this]
theorem okV_of {v : List Int} (h : ∀ x ∈ v, (Lit.int .u8 x).wf = true) : okV v = true := by
  unfold okV
  simp only [List.all_eq_true]
  intro x hx
  have := wf_byte (h x hx)
  simp [this]
theorem vb_map {n k : Nat} {f : Nat → Nat} (h : k < n) : vb ((List.range n).map fun i => ((f i : Nat) : Int)) k = f k := by
  unfold vb
  simp [List.getD, h]
theorem okV_map {n : Nat} {f : Nat → Nat} (h : ∀ i, f i < 256) : okV ((List.range n).map fun i => ((f i : Nat) : Int)) = true := by
  unfold okV
  simp only [List.all_eq_true, List.mem_map, List.mem_range]
  rintro x ⟨i, _, rfl⟩
  have := h i
  simp
  omega
theorem list_of_vb {v : List Int} (h : okV v = true) : ((List.range v.length).map fun i => ((vb v i : Nat) : Int)) = v := by
  apply List.ext_getElem
  · simp
  · intro k h1 h2
    have := (okV_at h k).2
    simp only [List.getElem_map, List.getElem_range]
    rw [← this]
    simp [List.getD, h2]
/-- The inverse undoes the matrix. -/
theorem solves {l : List (List Int)} {v : List Int} {inv : List (List Int)} (okl : okB l = true) (okv : okV v = true) (h : invF l = some (inv, 0)) (hv : v.length = l.length) : ∃ b, applyF l v = some (b, 0) ∧ applyF inv b = some (v, 0) := by
  unfold invF at h
  rw [if_pos okl] at h
  by_cases hm : rightB l = true ∧ l.length = (row l 0).length
  rotate_left
  · rw [if_neg hm] at h
    simp at h
  rw [if_pos hm] at h
  have hb : B8 (byt l) := fun i j => (okB_at okl i j).1
  have hn : 1 ≤ l.length ∧ l.length ≤ 255 := by have := hm.1; simp [rightB] at this; omega
  cases hg : gj l.length l.length (byt l, kronN) with
  | none => rw [hg] at h; simp at h
  | some s =>
    rw [hg] at h
    simp only [Option.some.injEq, Prod.mk.injEq] at h
    obtain ⟨rfl, _⟩ := h
    obtain ⟨g1, g2, g3⟩ := gj_some hb hg
    have hx : ∀ k, vb v k < 256 := fun k => (okV_at okv k).1
    have okm : okB (matrix l.length l.length fun i j => ((s.2 i j : Nat) : Int)) = true := okB_matrix fun i j _ _ => g1 i j
    refine ⟨(List.range l.length).map (fun i => ((mv l.length (byt l) (vb v) i : Nat) : Int)), ?_, ?_⟩
    · unfold applyF
      rw [if_pos ⟨okl, okv⟩, if_pos ⟨hm.1, by rw [hv]; exact hm.2⟩, hv]
    · unfold applyF
      rw [if_pos ⟨okm, okV_map fun i => mv_lt hb i⟩, if_pos ⟨rightB_matrix hn.1 hn.2 hn.1 hn.2, by rw [row_matrix (by omega)]; simp⟩, matrix_length]
      simp only [List.length_map, List.length_range]
      congr 2
      conv => rhs; rw [← list_of_vb okv, hv]
      apply List.map_congr_left
      intro i hi
      have hil : i < l.length := by simpa using hi
      congr 1
      have e1 : mv l.length (byt (matrix l.length l.length fun i j => ((s.2 i j : Nat) : Int))) (vb ((List.range l.length).map fun i => ((mv l.length (byt l) (vb v) i : Nat) : Int))) i = mv l.length s.2 (mv l.length (byt l) (vb v)) i := sx_congr fun k hk => by
        rw [byt_matrix hil hk, vb_map hk]
      rw [e1, ← mm_mv l.length s.2 (byt l) (vb v) g1 hb hx i]
      have e2 : mv l.length (mm l.length s.2 (byt l)) (vb v) i = mv l.length kronN (vb v) i := sx_congr fun k hk => by rw [g2 i k hil hk]
      rw [e2]
      exact mv_kron l.length (vb v) hx i hil
theorem solves_j0 (k : Nat) (l0 : List (List Int)) (l1 : List Int) (w0 : okB l0 = true) (w1 : okV l1 = true) (hk : 10 ≤ k) (b : Bool) : flintlaw5_GfSolves.j0 k l0 l1 b = some true := by
  obtain ⟨k, rfl⟩ : ∃ m, k = m + 2 := ⟨k - 2, by omega⟩
  simp only [flintlaw5_GfSolves.j0]
  cases b
  rotate_left
  · rw [if_pos rfl]
  rw [if_neg (by decide)]
  unfold PGd.gf_Inverse.f
  have hinv : ∃ x, invF l0 = some x := by
    unfold invF
    rw [if_pos w0]
    split
    · split
      · exact ⟨_, rfl⟩
      · exact ⟨_, rfl⟩
    · exact ⟨_, rfl⟩
  obtain ⟨⟨inv, e⟩, hi⟩ := hinv
  rw [hi]
  simp only [Option.bind_some]
  by_cases he : e = 0
  · subst he
    rw [if_pos rfl]
    by_cases hl : l1.length = l0.length
    · rw [show ((l1.length : Int) != (l0.length : Int)) = false by simp [hl]]
      simp only [flintlaw5_GfSolves.j1]
      rw [if_neg (by decide)]
      obtain ⟨b, b1, b2⟩ := solves w0 w1 hi hl
      unfold PGd.gf_Apply.f
      rw [b1]
      simp only [Option.bind_some]
      rw [b2]
      simp
    · rw [show ((l1.length : Int) != (l0.length : Int)) = true by simp; omega]
      simp [flintlaw5_GfSolves.j1]
  · rw [if_neg he]
    simp [flintlaw5_GfSolves.j1]
theorem GfSolves (l0 : List (List Int)) (l1 : List Int) (w0 : ∀ r ∈ l0, ∀ x ∈ r, (Lit.int .u8 x).wf = true) (hb : (l0.map fun r => r.length + 1).sum ≤ 1048576) (w1 : ∀ x ∈ l1, (Lit.int .u8 x).wf = true) (hb1 : l1.length ≤ 1048576) : ∃ k, flintlaw5_GfSolves.f k l0 l1 = some true := by
  refine ⟨2000000, ?_⟩
  unfold flintlaw5_GfSolves.f
  rw [GaFacts.known_ok _ (by omega), few_ok _ l0 hb (by omega)]
  simp only [Option.bind_some, if_true]
  have h := solves_j0 2000000 l0 l1 (okB_of w0) (okV_of w1) (by omega)
  split
  · exact h _
  · exact h _
end Go.Proofs.Ytgoacbbaiigpeaa.Pure
