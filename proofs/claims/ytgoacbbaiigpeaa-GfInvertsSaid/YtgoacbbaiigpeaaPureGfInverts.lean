/-
  GfInverts: whichever two rows are left out of units and pairs, the others have an inverse.
-/
import Derived.Test.YtgoacbbaiigpeaaPGcx1
import Derived.Test.YtgoacbbaiigpeaaGfPick
import Derived.Test.YtgoacbbaiigpeaaPureGfMakes
set_option linter.unusedVariables false
namespace Go.Proofs.Ytgoacbbaiigpeaa.Pure
open Go.RowKit Go.Proofs.Ytgoacbbaiigpeaa Go.Proofs.Ytgoacbbaiigpeaa.PGa Go.Proofs.Ytgoacbbaiigpeaa.PGb Go.Proofs.Ytgoacbbaiigpeaa.PGc Go.Proofs.YtgoacbbaiigpeaaW.PrintWords Go.Proofs.YtgoacbbaiigpeaaW.PrintLast Go.Proofs.Ytgoacbbaiigpeaa.GbFacts
open Go.Proofs.Ytgoacbbaiigpeaa.Gf

/-- Units with pairs below. -/
def allRows (n : Nat) : List (List Int) := matrix n n kron ++ matrix 2 n fun i j => ((GfM.g (i * j) : Nat) : Int)
theorem allRows_eq (n : Nat) : allRows n = matrix (n + 2) n fun r j => ((allN n r j : Nat) : Int) := by
  unfold allRows matrix
  rw [List.range_add, List.map_append]
  congr 1
  · apply List.map_congr_left
    intro i hi
    apply List.map_congr_left
    intro j hj
    have : i < n := by simpa using hi
    show kron i j = ((allN n i j : Nat) : Int)
    unfold allN kron kronN
    rw [if_pos this]
    split <;> rfl
  · rw [List.map_map]
    apply List.map_congr_left
    intro i hi
    apply List.map_congr_left
    intro j hj
    show ((GfM.g (i * j) : Nat) : Int) = ((allN n (n + i) j : Nat) : Int)
    unfold allN
    rw [if_neg (by omega)]
    have : i < 2 := by simpa using hi
    by_cases e : i = 0
    · subst e
      rw [if_pos (by omega), Nat.zero_mul]
      rfl
    · have e2 : i = 1 := by omega
      subst e2
      rw [if_neg (by omega), Nat.one_mul]
def restN (n lo hi : Nat) : List Int := (List.range n).map fun j => ((nth lo hi j : Nat) : Int)
theorem rest_getD {n lo hi j : Nat} (h : j < n) : (restN n lo hi).getD j 0 = ((nth lo hi j : Nat) : Int) := by simp [restN, List.getD, h]
def part (n lo hi : Nat) : List (List Int) := matrix n n fun i j => ((allN n (nth lo hi i) j : Nat) : Int)
theorem part_rows {n lo hi : Nat} (h1 : 1 ≤ n) (h2 : n ≤ 24) (h : lo < hi) (hh : hi < n + 2) : rowsF (allRows n) (restN n lo hi) = some (part n lo hi, 0) := by
  unfold rowsF
  rw [allRows_eq, if_pos (okB_matrix fun i j _ _ => allN_lt n i j)]
  have hl : (restN n lo hi).length = n := by simp [restN]
  have ha : anyOut (matrix (n + 2) n fun r j => ((allN n r j : Nat) : Int)).length (restN n lo hi) = false := by
    unfold anyOut
    rw [List.any_eq_false]
    intro i hi2
    have hi3 : i < n := by simpa [hl] using hi2
    rw [rest_getD hi3, matrix_length]
    have := nth_lt (n := n) h hh hi3
    simp [outB]
    omega
  rw [if_pos ⟨rightB_matrix (by omega) (by omega) (by omega) (by omega), by omega, by omega, ha⟩, hl, row_matrix (by omega)]
  simp only [List.length_map, List.length_range]
  congr 2
  unfold part
  refine matrix_congr fun i j hi2 hj => ?_
  rw [rest_getD hi2, Int.toNat_natCast, byt_matrix (nth_lt h hh hi2) hj]
theorem byt_lt {l : List (List Int)} (h : okB l = true) : B8 (byt l) := fun i j => (okB_at h i j).1
theorem part_inv {n lo hi : Nat} (h1 : 1 ≤ n) (h2 : n ≤ 24) (h : lo < hi) (hh : hi < n + 2) :
    ∃ v, invF (part n lo hi) = some (v, 0) ∧ timesF (part n lo hi) v = some (matrix n n kron, 0) ∧ timesF v (part n lo hi) = some (matrix n n kron, 0) := by
  have ok : okB (part n lo hi) = true := okB_matrix fun i j _ _ => allN_lt n _ j
  have rt : rightB (part n lo hi) = true := rightB_matrix h1 (by omega) h1 (by omega)
  have hl : (part n lo hi).length = n := matrix_length n n _
  have hr : (row (part n lo hi) 0).length = n := by unfold part; rw [row_matrix (by omega)]; simp
  have hb := byt_lt ok
  have he : ∀ i j, i < n → j < n → byt (part n lo hi) i j = allN n (nth lo hi i) j := fun i j hi2 hj => byt_matrix hi2 hj
  have hgj : ∃ s, gj n n (byt (part n lo hi), kronN) = some s := by
    cases hg : gj n n (byt (part n lo hi), kronN) with
    | some s => exact ⟨s, rfl⟩
    | none =>
      exfalso
      obtain ⟨x, hx, ⟨k, hk, hxk⟩, hz⟩ := gj_stuck hb hg
      refine hxk (left_zero h hh (by omega) x hx (fun r hr2 a b => ?_) k hk)
      have hc := cnt_lt h hh hr2 a b
      rw [← hz (cnt lo hi r) hc]
      refine sx_congr fun q hq => ?_
      rw [he _ q hc hq, nth_cnt h a b]
  obtain ⟨s, hs⟩ := hgj
  obtain ⟨g1, g2, g3⟩ := gj_some hb hs
  have okv : okB (matrix n n fun i j => ((s.2 i j : Nat) : Int)) = true := okB_matrix fun i j _ _ => g1 i j
  have rtv : rightB (matrix n n fun i j => ((s.2 i j : Nat) : Int)) = true := rightB_matrix h1 (by omega) h1 (by omega)
  have hrv : (row (matrix n n fun i j => ((s.2 i j : Nat) : Int)) 0).length = n := by rw [row_matrix (by omega)]; simp
  have hk : ∀ i j, ((kronN i j : Nat) : Int) = kron i j := fun i j => by unfold kronN kron; split <;> rfl
  refine ⟨matrix n n fun i j => ((s.2 i j : Nat) : Int), ?_, ?_, ?_⟩
  · unfold invF
    rw [if_pos ok, if_pos ⟨rt, by rw [hl, hr]⟩, hl, hs]
  · unfold timesF
    rw [if_pos ⟨ok, okv⟩, if_pos ⟨rt, rtv, by rw [hr, matrix_length]⟩, hl, hrv]
    congr 2
    refine matrix_congr fun i j hi2 hj => ?_
    rw [← hk, ← g3 i j hi2 hj]
    congr 1
    unfold prod mm
    rw [matrix_length]
    exact sx_congr fun q hq => by rw [byt_matrix hq hj]
  · unfold timesF
    rw [if_pos ⟨okv, ok⟩, if_pos ⟨rtv, rt, by rw [hrv, hl]⟩, matrix_length, hr]
    congr 2
    refine matrix_congr fun i j hi2 hj => ?_
    rw [← hk, ← g2 i j hi2 hj]
    congr 1
    unfold prod mm
    rw [hl]
    exact sx_congr fun q hq => by rw [byt_matrix hi2 hq]
theorem inv_l0 (n lo hi : Nat) (x1 x2 : Int) (hx : ∀ i : Nat, ((i : Int) = x1 ∨ (i : Int) = x2) ↔ (i = lo ∨ i = hi)) (h1 : 1 ≤ n) (h2 : n ≤ 24) (h : lo < hi) (hh : hi < n + 2) : ∀ (d k i : Nat), d + i = n + 2 → d + 600 < k →
    flintlaw5_GfInverts.l0 k n x1 x2 (matrix n n kron) (allRows n) ((List.range (cnt lo hi i)).map fun j => ((nth lo hi j : Nat) : Int)) i = some true := by
  intro d
  induction d with
  | zero =>
    intro k i hd hk
    obtain ⟨k, rfl⟩ : ∃ m, k = m + 1 := ⟨k - 1, by omega⟩
    simp only [flintlaw5_GfInverts.l0]
    have w1 : wrap64 ((n : Int) + 2) = ((n + 2 : Nat) : Int) := by unfold wrap64; omega
    rw [w1, if_neg (by omega), show i = n + 2 by omega, cnt_all h hh]
    obtain ⟨v, v1, v2, v3⟩ := part_inv h1 h2 h hh
    unfold PGc.gf_Rows.f PGc.gf_Inverse.f
    rw [show (List.range n).map (fun j => ((nth lo hi j : Nat) : Int)) = restN n lo hi from rfl, part_rows h1 h2 h hh]
    simp only [Option.bind_some]
    rw [v1]
    simp only [Option.bind_some, if_true]
    obtain ⟨k, rfl⟩ : ∃ m, k = m + 1 := ⟨k - 1, by omega⟩
    simp only [flintlaw5_GfInverts.j4]
    unfold PGc.gf_Times.f
    rw [if_neg (by simp), v2, v3]
    simp only [Option.bind_some, if_true]
    rw [same_refl k _ (by rw [matrix_length]; omega) (by rw [matrix_length]; omega)]
    simp
  | succ d ih =>
    intro k i hd hk
    obtain ⟨k, rfl⟩ : ∃ m, k = m + 1 := ⟨k - 1, by omega⟩
    simp only [flintlaw5_GfInverts.l0]
    have w1 : wrap64 ((n : Int) + 2) = ((n + 2 : Nat) : Int) := by unfold wrap64; omega
    have w2 : wrap64 ((i : Int) + 1) = ((i + 1 : Nat) : Int) := by unfold wrap64; omega
    have hi2 := ih k (i + 1) (by omega) (by omega)
    rw [w1, if_pos (by omega), w2]
    by_cases e : (i : Int) = x1 ∨ (i : Int) = x2
    · have e2 := (hx i).1 e
      rw [cnt_same h e2] at hi2
      by_cases e3 : (i : Int) = x1
      · rw [if_pos e3]; exact hi2
      · rw [if_neg e3, if_pos (by omega)]; exact hi2
    · have e2 : ¬ (i = lo ∨ i = hi) := fun a => e ((hx i).2 a)
      rw [if_neg (by omega), if_neg (by omega)]
      have hlen : ((List.range (cnt lo hi i)).map fun j => ((nth lo hi j : Nat) : Int)).length < 17592186044416 := by
        have := cnt_lt h hh (show i < n + 2 by omega) (by omega) (by omega)
        simp; omega
      rw [if_pos hlen]
      rw [cnt_succ h (by omega) (by omega), List.range_succ, List.map_append] at hi2
      rw [show (i : Int) = ((nth lo hi (cnt lo hi i) : Nat) : Int) by rw [nth_cnt h (by omega) (by omega)]]
      simpa using hi2
theorem inv_j1 (k n : Nat) (a1 a2 : Int) (h1 : 1 ≤ n) (h2 : n ≤ 24) (hk : 700 ≤ k) : flintlaw5_GfInverts.j1 k n a1 a2 (matrix n n kron) (matrix 2 n fun i j => ((GfM.g (i * j) : Nat) : Int)) false = some true := by
  obtain ⟨k, rfl⟩ : ∃ m, k = m + 1 := ⟨k - 1, by omega⟩
  simp only [flintlaw5_GfInverts.j1]
  have w1 : wrap64 ((n : Int) + 2) = ((n + 2 : Nat) : Int) := by unfold wrap64; omega
  rw [if_neg (by decide)]
  have l1 : ([] : List (List Int)).length + (matrix n n kron).length < 5864062014805 := by rw [List.length_nil, matrix_length]; omega
  have l2 : ([] ++ matrix n n kron : List (List Int)).length + (matrix 2 n fun i j => ((GfM.g (i * j) : Nat) : Int)).length < 5864062014805 := by rw [List.nil_append, matrix_length, matrix_length]; omega
  rw [Option.bind_some, if_pos l1, Option.bind_some, if_pos l2, Option.bind_some, w1, if_neg (by omega), List.nil_append]
  obtain ⟨x1, hx1⟩ : ∃ x, x = Int.tmod a1 ((n + 2 : Nat) : Int) := ⟨_, rfl⟩
  obtain ⟨x2, hx2⟩ : ∃ x, x = Int.tmod a2 ((n + 2 : Nat) : Int) := ⟨_, rfl⟩
  have b1 : x1 < ((n + 2 : Nat) : Int) := by rw [hx1]; exact Int.tmod_lt_of_pos _ (by omega)
  have b2 : x2 < ((n + 2 : Nat) : Int) := by rw [hx2]; exact Int.tmod_lt_of_pos _ (by omega)
  rw [← hx1, ← hx2]
  have hj2 : ∀ k y, flintlaw5_GfInverts.j2 (k + 1) n x1 x2 (matrix n n kron) y true = some true := fun k y => by simp [flintlaw5_GfInverts.j2]
  obtain ⟨k, rfl⟩ : ∃ m, k = m + 1 := ⟨k - 1, by omega⟩
  rw [show matrix n n kron ++ (matrix 2 n fun i j => ((GfM.g (i * j) : Nat) : Int)) = allRows n from rfl]
  by_cases n1 : x1 < 0
  · rw [if_pos n1, hj2]
  · rw [if_neg n1]
    by_cases n2 : x2 < 0
    · rw [if_pos n2, hj2]
    · rw [if_neg n2]
      by_cases e : x1 = x2
      · rw [show (x1 == x2) = true from beq_iff_eq.2 e, hj2]
      · rw [show (x1 == x2) = false from beq_eq_false_iff_ne.2 e]
        simp only [flintlaw5_GfInverts.j2]
        rw [if_neg (by decide)]
        by_cases lt : x1 < x2
        · have := inv_l0 n x1.toNat x2.toNat x1 x2 (fun i => by omega) h1 h2 (by omega) (by omega) (n + 2) k 0 (by omega) (by omega)
          simpa [cnt] using this
        · have := inv_l0 n x2.toNat x1.toNat x1 x2 (fun i => by omega) h1 h2 (by omega) (by omega) (n + 2) k 0 (by omega) (by omega)
          simpa [cnt] using this
theorem GfInverts : flintlaw5_GfInverts.Pure := by
  intro a0 a1 a2 w0 w1 w2
  refine ⟨2000, ?_⟩
  unfold flintlaw5_GfInverts.f
  rw [GaFacts.known_ok _ (by omega)]
  simp only [Option.bind_some, if_true]
  by_cases c1 : a0 < 1
  · rw [if_pos c1]; simp [flintlaw5_GfInverts.j0]
  rw [if_neg c1]
  by_cases c2 : a0 > 24
  · rw [decide_eq_true c2]; simp [flintlaw5_GfInverts.j0]
  rw [decide_eq_false c2]
  obtain ⟨n, rfl⟩ : ∃ n : Nat, a0 = n := ⟨a0.toNat, by omega⟩
  simp only [flintlaw5_GfInverts.j0]
  rw [if_neg (by decide)]
  have hu : gf_Unit.f (n : Int) = some (matrix n n kron, 0) := by
    unfold gf_Unit.f unitF
    rw [if_neg c1, if_neg (by omega), Int.toNat_natCast]
  have hp : gf_Pairs.f (n : Int) = some (matrix 2 n fun i j => ((GfM.g (i * j) : Nat) : Int), 0) := by
    unfold gf_Pairs.f
    rw [if_neg c1, if_neg (by omega), Int.toNat_natCast]
  rw [hu, hp]
  simp only [Option.bind_some, if_true, matrix_length]
  rw [show (((2 : Nat) : Int) != 2) = false by decide]
  exact inv_j1 1999 n a1 a2 (by omega) (by omega) (by omega)
end Go.Proofs.Ytgoacbbaiigpeaa.Pure
