/- Several texts of this session laid together: RsPar, RsMiss, RsKn, RsKw. -/
import Derived.Test.YtjolnjckgoilpaaRsTimes
section
/-
  (*rs.Code).parity: both rows of parity.
-/
set_option linter.unusedVariables false
set_option linter.unusedSimpArgs false
namespace Go.Proofs.Ytjolnjckgoilpaa.Rs
open Go.RowKit Go.Proofs.YtjolnjckgoilpaaW.PrintWords Go.Proofs.YtjolnjckgoilpaaW.PrintLast Go.Proofs.YtjolnjckgoilpaaW.PrintMore Go.Proofs.Ytjolnjckgoilpaa.PRa Go.Proofs.Ytjolnjckgoilpaa.Gf
/-- The code of k, as New makes it, in a block of its own. -/
def pairsL (k : Nat) : List (List Int) := matrix 2 k fun i j => ((GfM.g (i * j) : Nat) : Int)
def CodeAt (W : World) (g k : Nat) : Prop := ∃ A c, W.heap[g]? = some (.cells #[.int .i64 k, .slice A 2 c] 48 (0, 0)) ∧ 2 ≤ c ∧ KR.C W A 2 (pairsL k)
theorem CodeAt.below {W W1 : World} {g k : Nat} (h : CodeAt W g k) (hb : Below W.heap.size W W1) : CodeAt W1 g k := by
  obtain ⟨A, c, h1, h2, h3⟩ := h
  exact ⟨A, c, (hb.block g (heap_lt h1)).trans h1, h2, Kd.C_below h3 hb⟩
def NewQ (w : World) (k : Int) (e : Ending) (w' : World) : Prop := Below w.heap.size w w' ∧
    if 1 ≤ k ∧ k ≤ 32 then ∃ g, e = .returned (.tuple #[.pointer (some ⟨g, 0, none⟩), .int .i64 0]) ∧ w.heap.size ≤ g ∧ CodeAt w' g k.toNat else e = .returned (.tuple #[.pointer none, .int .i64 1])
theorem newQ_no {w : World} {k : Int} (h : ¬ (1 ≤ k ∧ k ≤ 32)) : NewQ w k (.returned (.tuple #[.pointer none, .int .i64 1])) w := ⟨Below.refl _ _, by rw [if_neg h]⟩
theorem newQ_yes {w w1 : World} {n : Nat} {v : Value} (h1 : 1 ≤ n) (h2 : n ≤ 32) (hb : Below w.heap.size w w1) (hb2 : w1.heap[w.heap.size]? = some (.cells #[.int .i64 n, .slice none 0 0] 48 (0, 0))) (hv : Kd.S KR 25 w1 (w.heap.size + 1) (fun _ => True) v (pairsL n)) :
    NewQ w n (.returned (.tuple #[.pointer (some ⟨w.heap.size, 0, none⟩), .int .i64 0])) (w1.setCell ⟨w.heap.size, 1, none⟩ v) := by
  refine ⟨below_set hb (Nat.le_refl _), ?_⟩
  rw [if_pos ⟨by omega, by omega⟩]
  refine ⟨_, rfl, Nat.le_refl _, ?_⟩
  have hR := Kd.S_R hv
  obtain ⟨A, c, rfl, hl, hC⟩ := Kd.R_reads hR
  have e2 : (pairsL n).length = 2 := by simp [pairsL, matrix]
  rw [e2] at hl hC ⊢
  refine ⟨A, c, ?_, hl, ?_⟩
  · have := blkset hb2 1 (.slice A 2 c)
    rw [this]
    rfl
  · have hR2 : Kd.R KR 25 (w1.setCell ⟨w.heap.size, 1, none⟩ (.slice A 2 c)) (w.heap.size + 1) (fun _ => True) (.slice A (pairsL n).length c) (pairsL n) := by
      rw [e2]
      exact Kd.R_set hR hb2 (by simp [KR, Kd.slice, Kd.int, Kd.scalar]) 1 _
    have := (Kd.R_reads' hR2).2.2
    rw [e2] at this
    exact this
set_option maxHeartbeats 8000000 in
set_option maxRecDepth 100000 in
theorem new10 (w : World) (k : Int) : Calls Try.prog 10 #[.int .i64 k] w (NewQ w k) := by
  go_enter Try.func10, Try.ntmps10
  by_cases h1 : 1 ≤ k
  · by_cases h2 : k ≤ 32
    · obtain ⟨n, rfl⟩ : ∃ n : Nat, k = n := ⟨k.toNat, by omega⟩
      have b1 : decide ((n : Int) < 1) = false := decide_eq_false (by omega)
      have b2 : decide ((32 : Int) < (n : Int)) = false := decide_eq_false (by omega)
      have HP := Aside0.mk (fun (W : World) => gf_Pairs.calls (n : Int) (pairsL n) 0 W (by unfold gf_Pairs.f; rw [if_neg (by omega), if_neg (by omega)]; rfl))
      go_wp2_with (go_at_call 20; refine Calls.mono (HP.out _) ?_; rintro e w1 ⟨v, rfl, hv, hb⟩; obtain ⟨A1, c1, rfl, _⟩ := Kd.S_reads hv; have hblk : w1.heap[w.heap.size]? = some (.cells #[.int .i64 (n : Int), .slice none 0 0] 48 (0, 0)) := (hb.block w.heap.size (by simp)).trans (heap_alloc_last _ _); have hcell : w1.cell? ⟨w.heap.size, 1, none⟩ = some (.slice none 0 0) := (by rw [cell_of_row w1 w.heap.size 1 _ 48 (0, 0) hblk]; rfl); have hfr : w1.frozen? ⟨w.heap.size, 1, none⟩ = false := frozen_blk hblk; have HV := Aside0.mk (newQ_yes (by omega) (by omega) (below_then (below_alloc (Below.refl _ _) _) (by simp) hb) hblk (by simpa using hv)); clear hv hb hblk)
      go_ret2
      exact HV.out
    · have b1 : decide (k < 1) = false := decide_eq_false (by omega)
      have b2 : decide (32 < k) = true := decide_eq_true (by omega)
      have HN := Aside0.mk (newQ_no (w := w) (k := k) (by omega))
      go_wp2_with fail
      go_ret2
      exact HN.out
  · have b1 : decide (k < 1) = true := decide_eq_true (by omega)
    have HN := Aside0.mk (newQ_no (w := w) (k := k) (by omega))
    go_wp2_with fail
    go_ret2
    exact HN.out
/-- The r-th row of parity. -/
def rho (r i : Nat) : Nat := GfM.g (r * i)
theorem row_pairs {k r : Nat} (hr : r < 2) : row (pairsL k) r = (List.range k).map fun j => ((rho r j : Nat) : Int) := by simp [row, pairsL, matrix, List.getD, hr, rho]
def TimesQ (w : World) (m : Nat) (f : Nat → Nat) (e : Ending) (w' : World) : Prop := ∃ g, e = .returned (.slice (some ⟨g, 0, none⟩) m m) ∧ w.heap.size ≤ g ∧ RowAt w' g m f ∧ Below w.heap.size w w'
/-- Two rows in a slice of their own. -/
structure PairAt (w W : World) (b g0 g1 m : Nat) (f0 f1 : Nat → Nat) : Prop where
  below : Below w.heap.size w W
  top : W.heap[b]? = some (.cells #[.slice (some ⟨g0, 0, none⟩) m m, .slice (some ⟨g1, 0, none⟩) m m] 25 (0, 0))
  row0 : RowAt W g0 m f0
  row1 : RowAt W g1 m f1
  ge : w.heap.size ≤ g0
  lt : g0 < g1
  lt2 : g1 < b
def ParQ (w : World) (k m : Nat) (l : List (List Int)) (e : Ending) (w' : World) : Prop := ∃ b g0 g1, e = .returned (.slice (some ⟨b, 0, none⟩) 2 2) ∧ PairAt w w' b g0 g1 m (tcol (rho 0) l k) (tcol (rho 1) l k)
theorem par_end {w w1 w2 w3 : World} {m g0 g1 : Nat} {f0 f1 : Nat → Nat} (h0 : Below w.heap.size w w1) (hg0 : w1.heap.size ≤ g0) (hr0 : RowAt w2 g0 m f0) (hb0 : Below w1.heap.size w1 w2) (hg1 : w2.heap.size ≤ g1) (hr1 : RowAt w3 g1 m f1) (hb1 : Below w2.heap.size w2 w3) :
    PairAt w (w3.alloc (.cells #[.slice (some ⟨g0, 0, none⟩) m m, .slice (some ⟨g1, 0, none⟩) m m] 25)) w3.heap.size g0 g1 m f0 f1 where
  below := below_alloc (below_then (below_then h0 h0.size hb0) (below_then h0 h0.size hb0).size hb1) _
  top := heap_alloc_last _ _
  row0 := blkalloc ((hb1.block g0 (heap_lt hr0)).trans hr0) _
  row1 := blkalloc hr1 _
  ge := by have := h0.size; omega
  lt := by have := heap_lt hr0; omega
  lt2 := heap_lt hr1
def parity26.T1 : Bool × List (List Nat × List Nat) := (true, [([], []), ([0], [0]), ([1], [1]), ([2], [2]), ([3], [3]), ([4], [4]), ([], []), ([5, 6], [5, 6]), ([], []), ([8], [8]), ([9], [9]), ([10], [10]), ([11], [11]), ([12], [12]), ([], []), ([13, 14, 7], [13, 14]), ([7, 15], [7, 15]), ([16, 15, 0, 1, 2, 3, 4, 5, 6, 7, 8, 9, 10, 11, 12, 13, 14, 15, 16], [16])])
def parity26.B1 : List Nat := [0, 1, 3, 7, 15, 31, 0, 127, 0, 256, 768, 1792, 3840, 7936, 0, 32767, 65535, 131071]
theorem parity26.tab1 : rtab .any (opsOf Try.f26 1) = parity26.T1 := by kernel_rfl
theorem parity26.bits1 : waitsOk parity26.T1.2 parity26.B1 = true := by kernel_rfl
set_option maxHeartbeats 8000000 in
set_option maxRecDepth 100000 in
theorem parity26 (w : World) (g k : Nat) (hc : CodeAt w g k) (hk : 1 ≤ k) (hk2 : k ≤ 32) (B : Option Addr) (d : Nat) (l : List (List Int)) (hL : KR.C w B k l) (hl : l.length = k) (m : Nat) (hm9 : m ≤ 1000000) (hok : okB l = true) (hm : ∀ i, i < k → (row l i).length = m) :
    Calls Try.prog 26 #[.pointer (some ⟨g, 0, none⟩), .slice B k d] w (ParQ w k m l) := by
  obtain ⟨A, c, hg, hc2, hP⟩ := hc
  obtain ⟨ad, A0, c0, eA, hx0, hl0, hi0⟩ := rows_at hP (i := 0) (by omega)
  obtain ⟨ad', A1, c1, eA', hx1, hl1, hi1⟩ := rows_at hP (i := 1) (by omega)
  subst eA
  obtain rfl : ad = ad' := by injection eA'
  have e0 : (row (pairsL k) 0).length = k := by rw [row_pairs (by omega)]; simp
  have e1 : (row (pairsL k) 1).length = k := by rw [row_pairs (by omega)]; simp
  have HT : ∀ (r : Nat) (hr : r < 2) (A0 : Option Addr) (c0 : Nat) (hi0 : KB.C w A0 (row (pairsL k) r).length (row (pairsL k) r)) (e0 : (row (pairsL k) r).length = k), Aside0 (∀ W, Below w.heap.size w W → Calls Try.prog 32 #[.slice A0 k c0, .slice B k d] W (TimesQ W m (tcol (rho r) l k))) := fun r hr A0 c0 hi0 e0 => ⟨fun W hW => by
    have := times32 W A0 c0 (row (pairsL k) r) (Kd.C_below hi0 hW) (rho r) (fun i => GfM.g_lt _) (fun i hi => by rw [row_pairs hr] at hi ⊢; simp at hi; simp [List.getD, hi]) B d l (by rw [hl]; exact Kd.C_below hL hW) k m hl (by omega) (by omega) (by omega) hm9 hok hm
    rw [e0] at this
    exact this⟩
  have HT0 := HT 0 (by omega) A0 c0 hi0 e0
  have HT1 := HT 1 (by omega) A1 c1 hi1 e1
  rw [e0] at hx0
  rw [e1] at hx1
  have cg : w.cell? ⟨g, 1, none⟩ = some (.slice (some ad) 2 c) := by rw [cell_of_row w g 1 _ 48 (0, 0) hg]; rfl
  clear HT hi0 hi1 e0 e1 hl0 hl1 eA' hL hok hm hP hg hl
  rw [show ad.add 0 = ad by simp [Addr.add]] at hx0
  rw [show ad.add 1 = ⟨ad.block, ad.off + 1, none⟩ by simp [Addr.add]] at hx1
  go_enter Try.func26, Try.ntmps26
  go_wp2_with fail
  refine start_ (n := 18) (S := fun w' => w'.cell? ⟨g, 1, none⟩ = some (.slice (some ad) 2 c) ∧ w'.cell? ad = some (.slice A0 k c0) ∧ w'.cell? ⟨ad.block, ad.off + 1, none⟩ = some (.slice A1 k c1)) (ds := []) #[false, false, false, false, false, false, false, false, false, false, false, false, false, false, false, false, false, false] (by kernel_rfl) rfl rfl ⟨cg, hx0, hx1⟩ (fun hHeld => ?_)
  refine with_tabW parity26.tab1 parity26.bits1 (fun HT_ HW_ => ?_)
  refine pure_ (i := 0) (N := some 5) (v := ?_) (a' := ?_) #[true, false, false, false, false, false, false, false, false, false, false, false, false, false, false, false, false, false] rfl rfl (any_of HT_.out (by kernel_rfl)) (fun _ _ _ h => h) (Or.inl ⟨by rfl, ?_⟩) ?_ ?_
  rotate_left
  · intro w'
    go_simp
    with_reducible rfl
  rotate_left
  · simp only [Act.put, List.setIfInBounds_toArray, List.set_cons_zero, List.set_cons_succ, i64_w, i32_w]
    rfl
  refine pure_ (i := 1) (N := some 6) (v := ?_) (a' := ?_) #[true, true, false, false, false, false, false, false, false, false, false, false, false, false, false, false, false, false] rfl rfl (any_of HT_.out (by kernel_rfl)) (fun _ _ _ h => h) (Or.inl ⟨by rfl, ?_⟩) ?_ ?_
  rotate_left
  · intro w'
    go_simp
    with_reducible rfl
  rotate_left
  · simp only [Act.put, List.setIfInBounds_toArray, List.set_cons_zero, List.set_cons_succ, i64_w, i32_w]
    rfl
  refine pure_ (i := 2) (N := some 7) (v := ?_) (a' := ?_) #[true, true, true, false, false, false, false, false, false, false, false, false, false, false, false, false, false, false] rfl rfl (any_of HT_.out (by kernel_rfl)) (fun _ _ _ h => h) (Or.inl ⟨by rfl, ?_⟩) ?_ ?_
  rotate_left
  · intro w'
    go_simp
    with_reducible rfl
  rotate_left
  · simp only [Act.put, List.setIfInBounds_toArray, List.set_cons_zero, List.set_cons_succ, i64_w, i32_w]
    rfl
  refine pure_ (i := 6) (N := some 11) (v := ?_) (a' := ?_) #[true, true, true, false, false, false, true, false, false, false, false, false, false, false, false, false, false, false] rfl rfl (any_of HT_.out (by kernel_rfl)) (fun _ _ _ h => h) (Or.inl ⟨by rfl, ?_⟩) ?_ ?_
  rotate_left
  · intro w'
    go_simp
    with_reducible rfl
  rotate_left
  · simp only [Act.put, List.setIfInBounds_toArray, List.set_cons_zero, List.set_cons_succ, i64_w, i32_w]
    rfl
  refine pure_ (i := 8) (N := some 13) (v := ?_) (a' := ?_) #[true, true, true, false, false, false, true, false, true, false, false, false, false, false, false, false, false, false] rfl rfl (any_of HT_.out (by kernel_rfl)) (fun _ _ _ h => h) (Or.inl ⟨by rfl, ?_⟩) ?_ ?_
  rotate_left
  · intro w'
    go_simp
    with_reducible rfl
  rotate_left
  · simp only [Act.put, List.setIfInBounds_toArray, List.set_cons_zero, List.set_cons_succ, i64_w, i32_w]
    rfl
  refine pure_ (i := 9) (N := some 14) (v := ?_) (a' := ?_) #[true, true, true, false, false, false, true, false, true, true, false, false, false, false, false, false, false, false] rfl rfl (any_of HT_.out (by kernel_rfl)) (fun _ _ _ h => h) (Or.inl ⟨by rfl, ?_⟩) ?_ ?_
  rotate_left
  · intro w'
    go_simp
    with_reducible rfl
  rotate_left
  · simp only [Act.put, List.setIfInBounds_toArray, List.set_cons_zero, List.set_cons_succ, i64_w, i32_w]
    rfl
  refine pure_ (i := 10) (N := some 15) (v := ?_) (a' := ?_) #[true, true, true, false, false, false, true, false, true, true, true, false, false, false, false, false, false, false] rfl rfl (any_of HT_.out (by kernel_rfl)) (fun _ _ _ h => h) (Or.inl ⟨by rfl, ?_⟩) ?_ ?_
  rotate_left
  · intro w'
    go_simp
    with_reducible rfl
  rotate_left
  · simp only [Act.put, List.setIfInBounds_toArray, List.set_cons_zero, List.set_cons_succ, i64_w, i32_w]
    rfl
  refine pure_ (i := 14) (N := some 19) (v := ?_) (a' := ?_) #[true, true, true, false, false, false, true, false, true, true, true, false, false, false, true, false, false, false] rfl rfl (any_of HT_.out (by kernel_rfl)) (fun _ _ _ h => h) (Or.inl ⟨by rfl, ?_⟩) ?_ ?_
  rotate_left
  · intro w'
    go_simp
    with_reducible rfl
  rotate_left
  · simp only [Act.put, List.setIfInBounds_toArray, List.set_cons_zero, List.set_cons_succ, i64_w, i32_w]
    rfl
  refine take_ (i := 3) (N := some 8) (v := ?_) (a' := ?_) #[true, true, true, true, false, false, true, false, true, true, true, false, false, false, true, false, false, false] rfl rfl (take_ofW HT_.out HW_.out (by kernel_rfl)) (fun _ _ _ h => h) (Or.inl ⟨by rfl, ?_⟩) hHeld ?_ ?_
  rotate_left
  · rintro w' ⟨s0, s1, s2⟩
    go_simp
    with_reducible rfl
  rotate_left
  · simp only [Act.put, List.setIfInBounds_toArray, List.set_cons_zero, List.set_cons_succ, i64_w, i32_w]
    rfl
  refine pure_ (i := 4) (N := some 9) (v := ?_) (a' := ?_) #[true, true, true, true, true, false, true, false, true, true, true, false, false, false, true, false, false, false] rfl rfl (any_of HT_.out (by kernel_rfl)) (fun _ _ _ h => h) (Or.inl ⟨by rfl, ?_⟩) ?_ ?_
  rotate_left
  · intro w'
    go_simp
    with_reducible rfl
  rotate_left
  · simp only [Act.put, List.setIfInBounds_toArray, List.set_cons_zero, List.set_cons_succ, i64_w, i32_w]
    rfl
  refine take_ (i := 5) (N := some 10) (v := ?_) (a' := ?_) #[true, true, true, true, true, true, true, false, true, true, true, false, false, false, true, false, false, false] rfl rfl (take_ofW HT_.out HW_.out (by kernel_rfl)) (fun _ _ _ h => h) (Or.inl ⟨by rfl, ?_⟩) hHeld ?_ ?_
  rotate_left
  · rintro w' ⟨s0, s1, s2⟩
    go_simp
    with_reducible rfl
  rotate_left
  · simp only [Act.put, List.setIfInBounds_toArray, List.set_cons_zero, List.set_cons_succ, i64_w, i32_w]
    rfl
  refine take_ (i := 11) (N := some 16) (v := ?_) (a' := ?_) #[true, true, true, true, true, true, true, false, true, true, true, true, false, false, true, false, false, false] rfl rfl (take_ofW HT_.out HW_.out (by kernel_rfl)) (fun _ _ _ h => h) (Or.inl ⟨by rfl, ?_⟩) hHeld ?_ ?_
  rotate_left
  · rintro w' ⟨s0, s1, s2⟩
    go_simp
    with_reducible rfl
  rotate_left
  · simp only [Act.put, List.setIfInBounds_toArray, List.set_cons_zero, List.set_cons_succ, i64_w, i32_w]
    rfl
  refine pure_ (i := 12) (N := some 17) (v := ?_) (a' := ?_) #[true, true, true, true, true, true, true, false, true, true, true, true, true, false, true, false, false, false] rfl rfl (any_of HT_.out (by kernel_rfl)) (fun _ _ _ h => h) (Or.inl ⟨by rfl, ?_⟩) ?_ ?_
  rotate_left
  · intro w'
    go_simp
    with_reducible rfl
  rotate_left
  · simp only [Act.put, List.setIfInBounds_toArray, List.set_cons_zero, List.set_cons_succ, i64_w, i32_w]
    rfl
  refine take_ (i := 13) (N := some 18) (v := ?_) (a' := ?_) #[true, true, true, true, true, true, true, false, true, true, true, true, true, true, true, false, false, false] rfl rfl (take_ofW HT_.out HW_.out (by kernel_rfl)) (fun _ _ _ h => h) (Or.inl ⟨by rfl, ?_⟩) hHeld ?_ ?_
  rotate_left
  · rintro w' ⟨s0, s1, s2⟩
    go_simp
    with_reducible rfl
  rotate_left
  · simp only [Act.put, List.setIfInBounds_toArray, List.set_cons_zero, List.set_cons_succ, i64_w, i32_w]
    rfl
  refine one_ (i := 7) (N := some 12) #[true, true, true, true, true, true, true, true, true, true, true, true, true, true, true, false, false, false] rfl rfl (one_of HT_.out (by kernel_rfl)) (by decide) (fun K hK => ?_)
  refine goes_ Try.func32 (by kernel_rfl) rfl #[.slice A0 k c0, .slice B k d] (by rfl) rfl rfl (by simp only [List.map_toArray, List.map_cons, List.map_nil]; rfl) ?_
  refine Calls.mono (HT0.out _ (below_drew (Below.refl _ _))) ?_
  rintro e w7 ⟨g0, rfl, hg0, hr0, hb0⟩
  refine ⟨_, rfl, ?_⟩
  refine hK.out _ _ ⟨pw_cell_below hb0 hHeld.1, pw_cell_below hb0 hHeld.2.1, pw_cell_below hb0 hHeld.2.2⟩ (fun hHeld => ?_)
  clear hK K
  refine norm_ (a' := ?_) ?_ ?_
  rotate_left
  · show Act.put _ (some 12) _ = _
    simp only [Act.put, List.setIfInBounds_toArray, List.set_cons_zero, List.set_cons_succ, i64_w, i32_w]
    rfl
  refine one_ (i := 15) (N := some 20) #[true, true, true, true, true, true, true, true, true, true, true, true, true, true, true, true, false, false] rfl rfl (one_of HT_.out (by kernel_rfl)) (by decide) (fun K hK => ?_)
  refine goes_ Try.func32 (by kernel_rfl) rfl #[.slice A1 k c1, .slice B k d] (by rfl) rfl rfl (by simp only [List.map_toArray, List.map_cons, List.map_nil]; rfl) ?_
  refine Calls.mono (HT1.out _ (below_then (below_drew (Below.refl _ _)) (by simp) hb0)) ?_
  rintro e w15 ⟨g1, rfl, hg1, hr1, hb1⟩
  refine ⟨_, rfl, ?_⟩
  refine hK.out _ _ ⟨pw_cell_below hb1 hHeld.1, pw_cell_below hb1 hHeld.2.1, pw_cell_below hb1 hHeld.2.2⟩ (fun hHeld => ?_)
  clear hK K
  refine norm_ (a' := ?_) ?_ ?_
  rotate_left
  · show Act.put _ (some 20) _ = _
    simp only [Act.put, List.setIfInBounds_toArray, List.set_cons_zero, List.set_cons_succ, i64_w, i32_w]
    rfl
  refine one_ (i := 16) (N := some 21) #[true, true, true, true, true, true, true, true, true, true, true, true, true, true, true, true, true, false] rfl rfl (one_of HT_.out (by kernel_rfl)) (by decide) (fun K hK => ?_)
  refine value_ (w1 := ?_) (v := ?_) (by rfl) rfl ?_ ?_
  rotate_left 2
  · go_simp
    constructor
    · rfl
    · rfl
  refine hK.out _ _ ⟨pw_cell_below (below1 _ _) hHeld.1, pw_cell_below (below1 _ _) hHeld.2.1, pw_cell_below (below1 _ _) hHeld.2.2⟩ (fun hHeld => ?_)
  clear hK K
  refine norm_ (a' := ?_) ?_ ?_
  rotate_left
  · show Act.put _ (some 21) _ = _
    simp only [Act.put, List.setIfInBounds_toArray, List.set_cons_zero, List.set_cons_succ, i64_w, i32_w]
    rfl
  refine pure_ (i := 17) (N := some 4) (v := ?_) (a' := ?_) #[true, true, true, true, true, true, true, true, true, true, true, true, true, true, true, true, true, true] rfl rfl (any_of HT_.out (by kernel_rfl)) (fun _ _ _ h => h) (Or.inl ⟨by rfl, ?_⟩) ?_ ?_
  rotate_left
  · intro w'
    go_simp
    with_reducible rfl
  rotate_left
  · simp only [Act.put, List.setIfInBounds_toArray, List.set_cons_zero, List.set_cons_succ, i64_w, i32_w]
    rfl
  refine done_ (done_of HT_.out (by kernel_rfl)) ?_
  go_wp2_with fail
  go_ret
  exact ⟨_, _, _, rfl, par_end (below_drew (Below.refl _ _)) hg0 hr0 hb0 hg1 hr1 hb1⟩
end Go.Proofs.Ytjolnjckgoilpaa.Rs
end

section
/-
  rs.missing, (*rs.Code).Parity.
-/
set_option linter.unusedVariables false
set_option linter.unusedSimpArgs false
namespace Go.Proofs.Ytjolnjckgoilpaa.Rs
open Go.RowKit Go.Proofs.YtjolnjckgoilpaaW.PrintWords Go.Proofs.YtjolnjckgoilpaaW.PrintLast Go.Proofs.YtjolnjckgoilpaaW.PrintMore Go.Proofs.Ytjolnjckgoilpaa.PRa Go.Proofs.Ytjolnjckgoilpaa.Gf
/-- The numbers of the shards that are missing, from i on. -/
def missFrom (l : List (List Int)) (i d : Nat) : List Int := ((List.range' i d).filter fun (q : Nat) => decide ((row l q).length = 0)).map fun (q : Nat) => (q : Int)
def missL (l : List (List Int)) : List Int := missFrom l 0 l.length
theorem missFrom_succ (l : List (List Int)) (i d : Nat) : missFrom l i (d + 1) = (if (row l i).length = 0 then [(i : Int)] else []) ++ missFrom l (i + 1) d := by
  unfold missFrom
  rw [List.range'_succ, List.filter_cons]
  by_cases h : (row l i).length = 0
  · simp [h]
  · simp [h]
theorem missing_l0 (l : List (List Int)) (hl : l.length ≤ 100000000) : ∀ (d k i : Nat) (acc : List Int), d + i = l.length → d < k → acc.length ≤ i → rs_missing.l0 k acc l (l.length : Int) i = some (acc ++ missFrom l i d) := by
  intro d
  induction d with
  | zero =>
    intro k i acc hd hk ha
    obtain ⟨k, rfl⟩ : ∃ m, k = m + 1 := ⟨k - 1, by omega⟩
    simp only [rs_missing.l0]
    rw [if_neg (by omega)]
    simp [missFrom]
  | succ d ih =>
    intro k i acc hd hk ha
    obtain ⟨k, rfl⟩ : ∃ m, k = m + 1 := ⟨k - 1, by omega⟩
    simp only [rs_missing.l0]
    have e : rd_L1 l (i : Int) = row l i := by simp [rd_L1, row]
    have e2 : wrap64 ((i : Int) + 1) = ((i + 1 : Nat) : Int) := by unfold wrap64; omega
    rw [if_pos (by omega), if_pos (by omega), if_pos (by omega), e, e2, missFrom_succ]
    by_cases h : (row l i).length = 0
    · rw [if_pos (by omega), if_pos (by omega), if_pos h, ih k (i + 1) _ (by omega) (by omega) (by simp; omega)]
      simp
    · rw [if_neg (by omega), if_neg h, ih k (i + 1) _ (by omega) (by omega) (by omega)]
      simp
theorem missing24 (w : World) (A : Option Addr) (c : Nat) (l : List (List Int)) (hC : KR.C w A l.length l) (hc : l.length ≤ c) (hl : l.length ≤ 100000000) :
    Calls Try.prog 24 #[.slice A l.length c] w fun e w' => ∃ B d, e = .returned (.slice B (missL l).length d) ∧ Kd.R (Kd.int .i64) 3 w' w.heap.size (fun _ => True) (.slice B (missL l).length d) (missL l) ∧ Below w.heap.size w w' := by
  refine (rs_missing.calls (l.length + 1) A c l (missL l) w hC hc ?_).mono ?_
  · unfold rs_missing.f missL
    have := missing_l0 l hl l.length (l.length + 1) 0 [] (by omega) (by omega) (by simp)
    simpa using this
  · rintro e w' ⟨v, rfl, hR, hb⟩
    obtain ⟨B, d, rfl, _⟩ := Kd.R_reads hR
    exact ⟨B, d, rfl, hR, hb⟩
def ParityQ (w : World) (k m : Nat) (l : List (List Int)) (e : Ending) (w' : World) : Prop := ∃ b g0 g1, e = .returned (.tuple #[.slice (some ⟨b, 0, none⟩) 2 2, .int .i64 0]) ∧ PairAt w w' b g0 g1 m (tcol (rho 0) l k) (tcol (rho 1) l k)
def NoQ (w : World) (x : Int) (e : Ending) (w' : World) : Prop := e = .returned (.tuple #[.slice none 0 0, .int .i64 x]) ∧ Below w.heap.size w w'
/-- The world with the two results' variables. -/
def two (w : World) : World := (w.alloc (.cells #[.slice none 0 0] 22)).alloc (.cells #[.int .i64 0] 27)
theorem two_below (w : World) : Below w.heap.size w (two w) := below_alloc (below_alloc (Below.refl _ _) _) _
theorem two_at0 (w : World) : (two w).heap[w.heap.size]? = some (.cells #[.slice none 0 0] 22 (0, 0)) := blkalloc (heap_alloc_last _ _) _
theorem two_at1 (w : World) : (two w).heap[w.heap.size + 1]? = some (.cells #[.int .i64 0] 27 (0, 0)) := by
  have := heap_alloc_last (w.alloc (.cells #[.slice none 0 0] 22)) (.cells #[.int .i64 0] 27)
  rw [World.size_alloc] at this
  exact this
structure Two (w W : World) (v0 v1 : Value) : Prop where
  below : Below w.heap.size w W
  at0 : W.heap[w.heap.size]? = some (.cells #[v0] 22 (0, 0))
  at1 : W.heap[w.heap.size + 1]? = some (.cells #[v1] 27 (0, 0))
theorem Two.start (w : World) : Two w (two w) (.slice none 0 0) (.int .i64 0) := ⟨two_below w, two_at0 w, two_at1 w⟩
theorem Two.then_ {w W W1 : World} {v0 v1 : Value} (h : Two w W v0 v1) (hb : Below W.heap.size W W1) : Two w W1 v0 v1 := ⟨below_then h.below h.below.size hb, (hb.block _ (heap_lt h.at0)).trans h.at0, (hb.block _ (heap_lt h.at1)).trans h.at1⟩
theorem Two.set0 {w W : World} {v0 v1 : Value} (h : Two w W v0 v1) (u : Value) : Two w (W.setCell ⟨w.heap.size, 0, none⟩ u) u v1 := ⟨below_set h.below (Nat.le_refl _), blkset h.at0 0 u, blkfar h.at1 (p := ⟨w.heap.size, 0, none⟩) (Nat.succ_ne_self _) u⟩
theorem Two.set1 {w W : World} {v0 v1 : Value} (h : Two w W v0 v1) (u : Value) : Two w (W.setCell ⟨w.heap.size + 1, 0, none⟩ u) v0 u := ⟨below_set h.below (by omega), blkfar h.at0 (p := ⟨w.heap.size + 1, 0, none⟩) (by show _ ≠ _ + 1; omega) u, blkset h.at1 0 u⟩
theorem Two.c0 {w W : World} {v0 v1 : Value} (h : Two w W v0 v1) : W.cell? ⟨w.heap.size, 0, none⟩ = some v0 := by rw [cell_of_row W _ 0 _ 22 (0, 0) h.at0]; rfl
theorem Two.c1 {w W : World} {v0 v1 : Value} (h : Two w W v0 v1) : W.cell? ⟨w.heap.size + 1, 0, none⟩ = some v1 := by rw [cell_of_row W _ 0 _ 27 (0, 0) h.at1]; rfl
theorem Two.f0 {w W : World} {v0 v1 : Value} (h : Two w W v0 v1) : W.frozen? ⟨w.heap.size, 0, none⟩ = false := frozen_blk h.at0
theorem Two.f1 {w W : World} {v0 v1 : Value} (h : Two w W v0 v1) : W.frozen? ⟨w.heap.size + 1, 0, none⟩ = false := frozen_blk h.at1
theorem PairAt.two {w W W1 : World} {b g0 g1 m : Nat} {f0 f1 : Nat → Nat} {v0 v1 : Value} (hz : Two w W v0 v1) (h : PairAt W W1 b g0 g1 m f0 f1) (u0 u1 : Value) :
    PairAt w ((W1.setCell ⟨w.heap.size, 0, none⟩ u0).setCell ⟨w.heap.size + 1, 0, none⟩ u1) b g0 g1 m f0 f1 := by
  have h1 := heap_lt hz.at1
  have h2 := h.ge
  have h3 := h.lt
  have h4 := h.lt2
  exact ⟨(((hz.then_ h.below).set0 u0).set1 u1).below, blkfar (blkfar h.top (by show b ≠ w.heap.size; omega) _) (by show b ≠ w.heap.size + 1; omega) _,
    (h.row0.far (by show g0 ≠ w.heap.size; omega) _).far (by show g0 ≠ w.heap.size + 1; omega) _, (h.row1.far (by show g1 ≠ w.heap.size; omega) _).far (by show g1 ≠ w.heap.size + 1; omega) _, by omega, h3, h4⟩
set_option maxHeartbeats 8000000 in
set_option maxRecDepth 100000 in
theorem parity11_ok (w : World) (g k : Nat) (hc : CodeAt w g k) (hk : 1 ≤ k) (hk2 : k ≤ 32) (B : Option Addr) (d : Nat) (l : List (List Int)) (hL : KR.C w B k l) (hl : l.length = k) (hd : k ≤ d) (m : Nat) (hm9 : m ≤ 1000000) (hok : okB l = true) (hm : ∀ i, i < k → (row l i).length = m) (hs : sizesB 0 l = true) (hmiss : missL l = []) :
    Calls Try.prog 11 #[.pointer (some ⟨g, 0, none⟩), .slice B k d] w (ParityQ w k m l) := by
  have HC := Aside0.mk hc
  have HA := Aside0.mk (fun (W : World) (hW : Below w.heap.size w W) => (by have := alike23 W (k : Int) B d l (by rw [hl]; exact Kd.C_below hL hW) (by omega); rw [hl] at this; refine this.mono ?_; rintro e w' ⟨h, h2⟩; rw [if_pos ⟨by omega, hs⟩] at h; exact ⟨h, h2⟩ : Calls Try.prog 23 #[.int .i64 k, .slice B k d] W fun e w' => e = .returned (.tuple #[]) ∧ w' = W))
  have HM := Aside0.mk (fun (W : World) (hW : Below w.heap.size w W) => (by have := missing24 W B d l (by rw [hl]; exact Kd.C_below hL hW) (by omega) (by omega); rw [hl, hmiss] at this; refine this.mono ?_; rintro e w' ⟨B', d', rfl, h, h2⟩; exact ⟨B', d', rfl, h2⟩ : Calls Try.prog 24 #[.slice B k d] W fun e w' => ∃ B' d', e = .returned (.slice B' 0 d') ∧ Below W.heap.size W w'))
  have HP := Aside0.mk (fun (W : World) (hW : Below w.heap.size w W) => parity26 W g k (hc.below hW) hk hk2 B d l (Kd.C_below hL hW) hl m hm9 hok hm)
  obtain ⟨Ac, cc, hg, hcc2, hCC⟩ := hc
  have cg : w.cell? ⟨g, 0, none⟩ = some (.int .i64 k) := by rw [cell_of_row w g 0 _ 48 (0, 0) hg]; rfl
  have hgl : g < w.heap.size := heap_lt hg
  have hZ := Two.start w
  replace cg := pw_cell_below hZ.below cg
  have HZ := Aside0.mk hZ
  unfold two at HZ cg
  clear hL hg hCC hZ hm hok
  have hmf : ∀ (fn : Fn) (first cap : Array Value) (w : World), (Instr.makeFunc fn first cap).run Try.prog w = .ok (.func fn first cap) w := fun _ _ _ _ => rfl
  go_enter_defers Try.func11, Try.ntmps11
  go_wp2_with (first
    | (go_at_call 23; refine Calls.mono (HA.out _ HZ.out.below) ?_; rintro e w1 ⟨rfl, rfl⟩)
    | (go_at_call 24; refine Calls.mono (HM.out _ HZ.out.below) ?_; rintro e w2 ⟨B', d', rfl, hb2⟩; have HZ2 := Aside0.mk (HZ.out.then_ hb2); clear cg HZ)
    | (go_at_call 26; refine Calls.mono (HP.out _ HZ2.out.below) ?_; rintro e w3 ⟨b, g0, g1, rfl, hpa⟩
       have HZ3 := Aside0.mk (HZ2.out.then_ hpa.below)
       have HPA := Aside0.mk (hpa.two HZ2.out (.slice (some ⟨b, 0, none⟩) 2 2) (.int .i64 0))
       have HZ4 := Aside0.mk (HZ3.out.set0 (.slice (some ⟨b, 0, none⟩) 2 2))
       have HZ5 := Aside0.mk (HZ4.out.set1 (.int .i64 0))
       have c0 := HZ3.out.c0
       have c1 := HZ4.out.c1
       have f0 := HZ3.out.f0
       have f1 := HZ3.out.f1
       clear hpa HZ2))
  refine leaves_cons (f := 21) (args := #[.pointer (some ⟨w.heap.size + 1, 0, none⟩), .func (.func 22) #[] #[.pointer (some ⟨w.heap.size, 0, none⟩)]]) (by simp) (by simp [go_sem]) ?_
  refine (told_idle ⟨w.heap.size + 1, 0, none⟩ _ _).mono ?_
  rintro e u' w'' ⟨rfl, rfl, rfl⟩
  have r0 := HZ5.out.c0
  have r1 := HZ5.out.c1
  simp [Leaves, settle, results, Try.results11, go_sem, r0, r1]
  exact ⟨_, _, _, rfl, HPA.out⟩
/-- The door of a panic that was given: the error is told. -/
theorem Two.told {w W : World} {v0 v1 : Value} (h : Two w W v0 v1) (x : Int) : Two w ((W.setCell ⟨w.heap.size + 1, 0, none⟩ (.int .i64 x)).setCell ⟨w.heap.size, 0, none⟩ (.slice none 0 0)) (.slice none 0 0) (.int .i64 x) := (h.set1 _).set0 _
theorem told_two {w W : World} {v0 v1 : Value} (h : Two w W v0 v1) (x : Int) :
    CallsD Try.prog 21 #[.pointer (some ⟨w.heap.size + 1, 0, none⟩), .func (.func 22) #[] #[.pointer (some ⟨w.heap.size, 0, none⟩)]] (.panicking (panicV x)) W fun e u' w' =>
      e = .returned (.tuple #[]) ∧ u' = .panicking [{ v := .iface 27 (.int .i64 x), recovered := true }] ∧ w' = ((W.setCell ⟨w.heap.size + 1, 0, none⟩ (.int .i64 x)).setCell ⟨w.heap.size, 0, none⟩ (.slice none 0 0)) :=
  told_caught ⟨w.heap.size + 1, 0, none⟩ ⟨w.heap.size, 0, none⟩ 22 (.slice none 0 0) x [] W v0 (fun W1 hc hz => nil22 _ W1 v0 hc hz) enter22 v1 h.c1 h.f1 h.c0 h.f0 (by intro e; injection e with e; omega)
set_option maxHeartbeats 8000000 in
set_option maxRecDepth 100000 in
theorem parity11_no (w : World) (g k : Nat) (hc : CodeAt w g k) (B : Option Addr) (d : Nat) (l : List (List Int)) (hL : KR.C w B l.length l) (hd : l.length ≤ d) (hl9 : l.length ≤ 100000000) (hno : ¬ (((l.length : Int) = (k : Int) ∧ sizesB 0 l = true) ∧ missL l = [])) :
    Calls Try.prog 11 #[.pointer (some ⟨g, 0, none⟩), .slice B l.length d] w (NoQ w 1) := by
  have HA := Aside0.mk (fun (W : World) (hW : Below w.heap.size w W) => alike23 W (k : Int) B d l (Kd.C_below hL hW) hl9)
  have HM := Aside0.mk (fun (W : World) (hW : Below w.heap.size w W) => missing24 W B d l (Kd.C_below hL hW) hd hl9)
  obtain ⟨Ac, cc, hg, hcc2, hCC⟩ := hc
  have cg : w.cell? ⟨g, 0, none⟩ = some (.int .i64 k) := by rw [cell_of_row w g 0 _ 48 (0, 0) hg]; rfl
  have hgl : g < w.heap.size := heap_lt hg
  have hZ := Two.start w
  replace cg := pw_cell_below hZ.below cg
  have HZ := Aside0.mk hZ
  unfold two at HZ cg
  obtain ⟨n, hn⟩ : ∃ n, l.length = n := ⟨_, rfl⟩
  rw [hn] at HA HM hno ⊢
  have HN := Aside0.mk hn
  clear hL hg hCC hZ hd hl9 hn
  have hmf : ∀ (fn : Fn) (first cap : Array Value) (w : World), (Instr.makeFunc fn first cap).run Try.prog w = .ok (.func fn first cap) w := fun _ _ _ _ => rfl
  by_cases ha : (n : Int) = (k : Int) ∧ sizesB 0 l = true
  · have hmp : 0 < (missL l).length := by
      rcases Nat.eq_zero_or_pos (missL l).length with h | h
      · exact absurd ⟨ha, List.eq_nil_of_length_eq_zero h⟩ hno
      · exact h
    have HA2 := Aside0.mk (fun (W : World) (hW : Below w.heap.size w W) => (by refine (HA.out W hW).mono ?_; rintro e w' ⟨h, h2⟩; rw [if_pos (by first | exact ha | (rw [HN.out]; exact ha))] at h; exact ⟨h, h2⟩ : Calls Try.prog 23 #[.int .i64 k, .slice B n d] W fun e w' => e = .returned (.tuple #[]) ∧ w' = W))
    clear HA hno ha
    obtain ⟨q, hq⟩ : ∃ q, (missL l).length = q := ⟨_, rfl⟩
    rw [hq] at HM hmp
    clear hq
    have hqd : decide ((0 : Int) < (q : Int)) = true := decide_eq_true (by omega)
    go_enter_defers Try.func11, Try.ntmps11
    go_wp2_with (first
      | (go_at_call 23; refine Calls.mono (HA2.out _ HZ.out.below) ?_; rintro e w1 ⟨rfl, rfl⟩)
      | (go_at_call 24; refine Calls.mono (HM.out _ HZ.out.below) ?_; rintro e w2 ⟨B', d', rfl, _, hb2⟩; have HZ2 := Aside0.mk (HZ.out.then_ hb2); clear cg HZ)
      | (go_at_call 25; refine Calls.mono (give25 _ _) ?_; rintro e w3 ⟨rfl, rfl⟩))
    refine leaves_cons (f := 21) (args := #[.pointer (some ⟨w.heap.size + 1, 0, none⟩), .func (.func 22) #[] #[.pointer (some ⟨w.heap.size, 0, none⟩)]]) (by simp) (by simp [go_sem]) ?_
    refine (told_two HZ2.out 1).mono ?_
    rintro e u' w'' ⟨rfl, rfl, rfl⟩
    have HZ5 := HZ2.out.told 1
    have r0 := HZ5.c0
    have r1 := HZ5.c1
    simp [Leaves, settle, results, Try.results11, go_sem, r0, r1]
    exact ⟨rfl, HZ5.below⟩
  · have HA2 := Aside0.mk (fun (W : World) (hW : Below w.heap.size w W) => (by refine (HA.out W hW).mono ?_; rintro e w' ⟨h, h2⟩; rw [if_neg (by first | exact ha | (rw [HN.out]; exact ha))] at h; exact ⟨h, h2⟩ : Calls Try.prog 23 #[.int .i64 k, .slice B n d] W fun e w' => e = .panicked (panicV 1) ∧ w' = W))
    clear HA hno ha HM
    go_enter_defers Try.func11, Try.ntmps11
    go_wp2_with (first
      | (go_at_call 23; refine Calls.mono (HA2.out _ HZ.out.below) ?_; rintro e w1 ⟨rfl, rfl⟩))
    refine leaves_cons (f := 21) (args := #[.pointer (some ⟨w.heap.size + 1, 0, none⟩), .func (.func 22) #[] #[.pointer (some ⟨w.heap.size, 0, none⟩)]]) (by simp) (by simp [go_sem]) ?_
    refine (told_two HZ.out 1).mono ?_
    rintro e u' w'' ⟨rfl, rfl, rfl⟩
    have HZ5 := HZ.out.told 1
    have r0 := HZ5.c0
    have r1 := HZ5.c1
    simp [Leaves, settle, results, Try.results11, go_sem, r0, r1]
    exact ⟨rfl, below_alloc (below_alloc (Below.refl _ _) _) _⟩
end Go.Proofs.Ytjolnjckgoilpaa.Rs
end

section
/-
  The law's helpers few and known; K; Rebuild's errors.
-/
set_option linter.unusedVariables false
set_option linter.unusedSimpArgs false
namespace Go.Proofs.Ytjolnjckgoilpaa.Rs
open Go.RowKit Go.Proofs.YtjolnjckgoilpaaW.PrintWords Go.Proofs.YtjolnjckgoilpaaW.PrintLast Go.Proofs.YtjolnjckgoilpaaW.PrintMore Go.Proofs.Ytjolnjckgoilpaa.PRa Go.Proofs.Ytjolnjckgoilpaa.Gf
def fewB (l : List (List Int)) : Bool := decide (l.length ≤ 40) && decide ((l.map List.length).sum ≤ 4000)
theorem few_l0 (l : List (List Int)) (hb : (l.map List.length).sum ≤ 100000000) (hl : l.length ≤ 100000000) : ∀ (d k i s : Nat), d + i = l.length → d < k → s + ((l.drop i).map List.length).sum ≤ 100000000 → flintlaw6_few.l0 k l s i = some (decide (l.length ≤ 40) && decide (s + ((l.drop i).map List.length).sum ≤ 4000)) := by
  intro d
  induction d with
  | zero =>
    intro k i s hd hk hs
    obtain ⟨k, rfl⟩ : ∃ m, k = m + 1 := ⟨k - 1, by omega⟩
    simp only [flintlaw6_few.l0]
    rw [if_neg (by omega), List.drop_eq_nil_of_le (by omega)]
    by_cases h : l.length ≤ 40
    · rw [if_pos (by omega), decide_eq_true h]
      simp
      omega
    · rw [if_neg (by omega), decide_eq_false h]
      rfl
  | succ d ih =>
    intro k i s hd hk hs
    obtain ⟨k, rfl⟩ : ∃ m, k = m + 1 := ⟨k - 1, by omega⟩
    simp only [flintlaw6_few.l0]
    have e := row_len (l := l) (k := i) (by omega)
    rw [e] at hs ⊢
    simp only [List.map_cons, List.sum_cons] at hs ⊢
    have e2 : wrap64 ((i : Int) + 1) = ((i + 1 : Nat) : Int) := by unfold wrap64; omega
    have e3 : wrap64 ((s : Int) + ((rd_L1 l (i : Int)).length : Int)) = ((s + (rd_L1 l (i : Int)).length : Nat) : Int) := by unfold wrap64; omega
    rw [if_pos (by omega), if_pos (by omega), e2, e3, ih k (i + 1) _ (by omega) (by omega) (by omega), Nat.add_assoc]
theorem few9 (w : World) (A : Option Addr) (c : Nat) (l : List (List Int)) (hC : KR.C w A l.length l) (hc : l.length ≤ c) (hl : l.length ≤ 100000000) (hb : (l.map List.length).sum ≤ 100000000) :
    Calls Try.prog 9 #[.slice A l.length c] w fun e w' => e = .returned (.bool (fewB l)) ∧ Drawn0 w w' := by
  refine flintlaw6_few.calls (l.length + 1) A c l (fewB l) w hC hc ?_
  have := few_l0 l hb hl l.length (l.length + 1) 0 0 (by omega) (by omega) (by simpa using hb)
  unfold flintlaw6_few.f fewB
  simpa using this
theorem k16 (w : World) (g k : Nat) (hc : CodeAt w g k) : Calls Try.prog 16 #[.pointer (some ⟨g, 0, none⟩)] w fun e w' => e = .returned (.int .i64 k) ∧ w' = w := by
  obtain ⟨Ac, cc, hg, hcc2, hCC⟩ := hc
  have cg : w.cell? ⟨g, 0, none⟩ = some (.int .i64 k) := by rw [cell_of_row w g 0 _ 48 (0, 0) hg]; rfl
  go_enter Try.func16, Try.ntmps16
  go_wp2_with fail
  go_ret
  exact ⟨rfl, rfl⟩
theorem nil27 (q : Addr) (w : World) (v : Value) (hc : w.cell? q = some v) (hz : w.frozen? q = false) : Calls Try.prog 27 #[.pointer (some q)] w fun e w' => e = .returned (.tuple #[]) ∧ w' = w.setCell q (.slice none 0 0) := by
  go_enter Try.func27, Try.ntmps27
  go_wp2
  go_end0
  exact ⟨rfl, rfl⟩
theorem enter27 (args : Array Value) (w : World) : (callFunc 27 args).run Try.prog w = .ok (.enter 27 args) w := Go.Proofs.enters_of Try.func27 (by kernel_rfl) rfl args w
theorem told_two27 {w W : World} {v0 v1 : Value} (h : Two w W v0 v1) (x : Int) :
    CallsD Try.prog 21 #[.pointer (some ⟨w.heap.size + 1, 0, none⟩), .func (.func 27) #[] #[.pointer (some ⟨w.heap.size, 0, none⟩)]] (.panicking (panicV x)) W fun e u' w' =>
      e = .returned (.tuple #[]) ∧ u' = .panicking [{ v := .iface 27 (.int .i64 x), recovered := true }] ∧ w' = ((W.setCell ⟨w.heap.size + 1, 0, none⟩ (.int .i64 x)).setCell ⟨w.heap.size, 0, none⟩ (.slice none 0 0)) :=
  told_caught ⟨w.heap.size + 1, 0, none⟩ ⟨w.heap.size, 0, none⟩ 27 (.slice none 0 0) x [] W v0 (fun W1 hc hz => nil27 _ W1 v0 hc hz) enter27 v1 h.c1 h.f1 h.c0 h.f0 (by intro e; injection e with e; omega)
set_option maxHeartbeats 8000000 in
set_option maxRecDepth 100000 in
theorem rebuild12_lost (w : World) (g k : Nat) (hc : CodeAt w g k) (hk : k ≤ 32) (B : Option Addr) (d : Nat) (l : List (List Int)) (hL : KR.C w B l.length l) (hd : l.length ≤ d) (hl9 : l.length ≤ 100000000) (ha : l.length = k + 2 ∧ sizesB 0 l = true) (hlost : 2 < (missL l).length) :
    Calls Try.prog 12 #[.pointer (some ⟨g, 0, none⟩), .slice B l.length d] w (NoQ w 7) := by
  have hw2 : wrap64 ((k : Int) + 2) = (k : Int) + 2 := by unfold wrap64; omega
  have HA := Aside0.mk (fun (W : World) (hW : Below w.heap.size w W) => (by refine (alike23 W ((k : Int) + 2) B d l (Kd.C_below hL hW) hl9).mono ?_; rintro e w' ⟨h, h2⟩; rw [if_pos ⟨by omega, ha.2⟩] at h; exact ⟨h, h2⟩ : Calls Try.prog 23 #[.int .i64 ((k : Int) + 2), .slice B l.length d] W fun e w' => e = .returned (.tuple #[]) ∧ w' = W))
  have HM := Aside0.mk (fun (W : World) (hW : Below w.heap.size w W) => missing24 W B d l (Kd.C_below hL hW) hd hl9)
  obtain ⟨Ac, cc, hg, hcc2, hCC⟩ := hc
  have cg : w.cell? ⟨g, 0, none⟩ = some (.int .i64 k) := by rw [cell_of_row w g 0 _ 48 (0, 0) hg]; rfl
  have hgl : g < w.heap.size := heap_lt hg
  have hZ := Two.start w
  replace cg := pw_cell_below hZ.below cg
  have HZ := Aside0.mk hZ
  unfold two at HZ cg
  obtain ⟨q, hq⟩ : ∃ q, (missL l).length = q := ⟨_, rfl⟩
  rw [hq] at HM hlost
  obtain ⟨n, hn⟩ : ∃ n, l.length = n := ⟨_, rfl⟩
  rw [hn] at HA HM ⊢
  clear hL hg hCC hZ hd hl9 hn hq ha
  have hqd : decide ((2 : Int) < (q : Int)) = true := decide_eq_true (by omega)
  have hmf : ∀ (fn : Fn) (first cap : Array Value) (w : World), (Instr.makeFunc fn first cap).run Try.prog w = .ok (.func fn first cap) w := fun _ _ _ _ => rfl
  go_enter_defers Try.func12, Try.ntmps12
  go_wp2_with (first
    | (go_at_call 23; refine Calls.mono (HA.out _ HZ.out.below) ?_; rintro e w1 ⟨rfl, rfl⟩)
    | (go_at_call 24; refine Calls.mono (HM.out _ HZ.out.below) ?_; rintro e w2 ⟨B', d', rfl, _, hb2⟩; have HZ2 := Aside0.mk (HZ.out.then_ hb2); clear cg HZ)
    | (go_at_call 25; refine Calls.mono (give25 _ _) ?_; rintro e w3 ⟨rfl, rfl⟩))
  refine leaves_cons (f := 21) (args := #[.pointer (some ⟨w.heap.size + 1, 0, none⟩), .func (.func 27) #[] #[.pointer (some ⟨w.heap.size, 0, none⟩)]]) (by simp) (by simp [go_sem]) ?_
  refine (told_two27 HZ2.out 7).mono ?_
  rintro e u' w'' ⟨rfl, rfl, rfl⟩
  have HZ5 := HZ2.out.told 7
  have r0 := HZ5.c0
  have r1 := HZ5.c1
  simp [Leaves, settle, results, Try.results12, go_sem, r0, r1]
  exact ⟨rfl, HZ5.below⟩
end Go.Proofs.Ytjolnjckgoilpaa.Rs
end

section
/-
  The law's helper known.
-/
set_option linter.unusedVariables false
set_option linter.unusedSimpArgs false
namespace Go.Proofs.Ytjolnjckgoilpaa.Rs
open Go.RowKit Go.Proofs.YtjolnjckgoilpaaW.PrintWords Go.Proofs.YtjolnjckgoilpaaW.PrintLast Go.Proofs.YtjolnjckgoilpaaW.PrintMore Go.Proofs.Ytjolnjckgoilpaa.PRa Go.Proofs.Ytjolnjckgoilpaa.Gf
/-- A slice of rows, out of its block. -/
theorem KR_of {w : World} {b n : Nat} {cs : Array Value} {l : List (List Int)} (hb : w.heap[b]? = some (.cells cs 25 (0, 0))) (hl : l.length = n) (hn : n ≤ 1000000000)
    (h : ∀ j, j < n → ∃ A c', cs[j]? = some (.slice A (row l j).length c') ∧ (row l j).length ≤ c' ∧ KB.C w A (row l j).length (row l j)) : KR.C w (some ⟨b, 0, none⟩) n l := by
  refine ⟨hl, by omega, fun _ => ⟨_, rfl, fun j p hj => ?_⟩⟩
  obtain ⟨hjl, hp⟩ := List.getElem?_eq_some_iff.1 hj
  have e : row l j = p := by unfold row; rw [List.getD_eq_getElem?_getD, hj]; rfl
  obtain ⟨A, c', h1, h2, h3⟩ := h j (by omega)
  rw [e] at h1 h2 h3
  refine ⟨[.slice A p.length c'], rfl, ⟨A, c', rfl, h2, h3⟩, fun i u hu => ?_⟩
  cases i with
  | zero =>
    obtain rfl : Value.slice A p.length c' = u := by simpa using hu
    rw [show j * KR.sz + 0 = j by simp [KR, Kd.slice], Addr.add_mid, Nat.zero_add, cell_of_row w b j _ 25 (0, 0) hb]
    exact h1
  | succ i => simp at hu
theorem KB_row {w : World} {d m : Nat} {f : Nat → Nat} (h : RowAt w d m f) (hm : m ≤ 1000000000) : KB.C w (some ⟨d, 0, none⟩) m (rowL m f) := by
  have := (Kd.R_reads' (c := m) (A := some ⟨d, 0, none⟩) (n := m) (rowAt_R h (Nat.zero_le _) hm (ok := fun _ => True) trivial)).2.2
  rwa [rowL_length] at this
theorem KB_nil (w : World) : KB.C w none ([] : List Int).length [] := Kd.C_nil _ _
def kW (w : World) : World := ((w.alloc (.cells #[.int .u8 5] 5)).alloc (.cells #[.int .u8 6] 5)).alloc (.cells #[.slice (some ⟨w.heap.size, 0, none⟩) 1 1, .slice (some ⟨w.heap.size + 1, 0, none⟩) 1 1] 25)
theorem kW_below (w : World) : Below w.heap.size w (kW w) := below_alloc (below_alloc (below_alloc (Below.refl _ _) _) _) _
theorem size2 (w : World) (o o' : Obj) : ((w.alloc o).alloc o').heap.size = w.heap.size + 2 := by simp
theorem known_par (w : World) (g : Nat) (hc : CodeAt w g 2) : Calls Try.prog 11 #[.pointer (some ⟨g, 0, none⟩), .slice (some ⟨w.heap.size + 2, 0, none⟩) 2 2] (kW w) (ParityQ (kW w) 2 1 [[5], [6]]) := by
  have h5 : RowAt (kW w) w.heap.size 1 (fun _ => 5) := blkalloc (blkalloc (heap_alloc_last w _) _) _
  have h6 : RowAt (kW w) (w.heap.size + 1) 1 (fun _ => 6) := by
    have := heap_alloc_last (w.alloc (.cells #[.int .u8 5] 5)) (.cells #[.int .u8 6] 5)
    rw [World.size_alloc] at this
    exact blkalloc this _
  have hb : (kW w).heap[w.heap.size + 2]? = some (.cells #[.slice (some ⟨w.heap.size, 0, none⟩) 1 1, .slice (some ⟨w.heap.size + 1, 0, none⟩) 1 1] 25 (0, 0)) := by
    have := heap_alloc_last ((w.alloc (.cells #[.int .u8 5] 5)).alloc (.cells #[.int .u8 6] 5)) (.cells #[.slice (some ⟨w.heap.size, 0, none⟩) 1 1, .slice (some ⟨w.heap.size + 1, 0, none⟩) 1 1] 25)
    rw [size2] at this
    exact this
  refine parity11_ok (kW w) g 2 (hc.below (kW_below w)) (by omega) (by omega) _ 2 [[5], [6]] (KR_of hb rfl (by omega) (fun j hj => ?_)) rfl (Nat.le_refl _) 1 (by omega) (by decide) (fun i hi => ?_) (by decide) (by decide)
  · match j, hj with
    | 0, _ => exact ⟨_, _, rfl, Nat.le_refl _, KB_row h5 (by omega)⟩
    | 1, _ => exact ⟨_, _, rfl, Nat.le_refl _, KB_row h6 (by omega)⟩
  · match i, hi with
    | 0, _ => rfl
    | 1, _ => rfl
def rW (w : World) : World := (w.alloc (.cells #[.int .u8 9] 5)).alloc (.cells #[.slice none 0 0, .slice none 0 0, .slice none 0 0, .slice (some ⟨w.heap.size, 0, none⟩) 1 1] 25)
theorem rW_below (w : World) : Below w.heap.size w (rW w) := below_alloc (below_alloc (Below.refl _ _) _) _
theorem known_reb (w : World) (g : Nat) (hc : CodeAt w g 2) : Calls Try.prog 12 #[.pointer (some ⟨g, 0, none⟩), .slice (some ⟨w.heap.size + 1, 0, none⟩) 4 4] (rW w) (NoQ (rW w) 7) := by
  have h9 : RowAt (rW w) w.heap.size 1 (fun _ => 9) := blkalloc (heap_alloc_last w _) _
  have hb : (rW w).heap[w.heap.size + 1]? = some (.cells #[.slice none 0 0, .slice none 0 0, .slice none 0 0, .slice (some ⟨w.heap.size, 0, none⟩) 1 1] 25 (0, 0)) := by
    have := heap_alloc_last (w.alloc (.cells #[.int .u8 9] 5)) (.cells #[.slice none 0 0, .slice none 0 0, .slice none 0 0, .slice (some ⟨w.heap.size, 0, none⟩) 1 1] 25)
    rw [World.size_alloc] at this
    exact this
  refine rebuild12_lost (rW w) g 2 (hc.below (rW_below w)) (by omega) _ 4 [[], [], [], [9]] (KR_of hb rfl (by simp) (fun j hj => ?_)) (by simp) (by simp) (by decide) (by decide)
  match j, hj with
  | 0, _ => exact ⟨none, 0, rfl, Nat.le_refl _, KB_nil _⟩
  | 1, _ => exact ⟨none, 0, rfl, Nat.le_refl _, KB_nil _⟩
  | 2, _ => exact ⟨none, 0, rfl, Nat.le_refl _, KB_nil _⟩
  | 3, _ => exact ⟨_, _, rfl, Nat.le_refl _, KB_row h9 (by omega)⟩
theorem tcol_a : tcol (rho 0) [[5], [6]] 2 0 = 3 := by decide
theorem tcol_b : tcol (rho 1) [[5], [6]] 2 0 = 9 := by decide
set_option maxHeartbeats 8000000 in
set_option maxRecDepth 100000 in
theorem known8 (w : World) : Calls Try.prog 8 #[] w fun e w' => e = .returned (.bool true) ∧ Below w.heap.size w w' := by
  have HN := Aside0.mk (fun (W : World) => (by refine (new10 W 2).mono ?_; rintro e w' ⟨hb, h⟩; rw [if_pos (by omega)] at h; obtain ⟨g, rfl, hg, hc⟩ := h; exact ⟨g, rfl, hc, hb⟩ : Calls Try.prog 10 #[.int .i64 2] W fun e w' => ∃ g, e = .returned (.tuple #[.pointer (some ⟨g, 0, none⟩), .int .i64 0]) ∧ CodeAt w' g 2 ∧ Below W.heap.size W w'))
  go_enter Try.func8, Try.ntmps8
  go_wp2_with (first
    | (go_at_call 10; refine Calls.mono (HN.out _) ?_; rintro e w1 ⟨g, rfl, hc, hb⟩; have HC := Aside0.mk hc; have HB := Aside0.mk hb; clear hc hb)
    | (go_at_call 11; refine Calls.mono (known_par w1 g HC.out) ?_; rintro e w2 ⟨b, g0, g1, rfl, hp⟩; have HP := Aside0.mk hp; have HB2 := Aside0.mk (below_then HB.out HB.out.size (below_then (kW_below w1) (kW_below w1).size hp.below)); have HC2 := Aside0.mk ((HC.out.below (kW_below w1)).below hp.below); clear hp)
    | (go_at_call 12; refine Calls.mono (known_reb w2 g HC2.out) ?_; rintro e w3 ⟨rfl, hb⟩
       have hz : Below w2.heap.size w2 w3 := below_then (rW_below w2) (rW_below w2).size hb
       have c0 : w3.cell? ⟨b, 0, none⟩ = some (.slice (some ⟨g0, 0, none⟩) 1 1) := pw_cell_below hz (by rw [cell_of_row w2 b 0 _ 25 (0, 0) HP.out.top]; rfl)
       have c1 : w3.cell? ⟨b, 1, none⟩ = some (.slice (some ⟨g1, 0, none⟩) 1 1) := pw_cell_below hz (by rw [cell_of_row w2 b 1 _ 25 (0, 0) HP.out.top]; rfl)
       have d0 : w3.cell? ⟨g0, 0, none⟩ = some (.int .u8 3) := pw_cell_below hz (by have := HP.out.row0.cell (j := 0) (by omega); rw [tcol_a] at this; exact this)
       have d1 : w3.cell? ⟨g1, 0, none⟩ = some (.int .u8 9) := pw_cell_below hz (by have := HP.out.row1.cell (j := 0) (by omega); rw [tcol_b] at this; exact this)
       have HB3 := Aside0.mk (below_then HB2.out HB2.out.size hz)
       have HC3 := Aside0.mk (HC2.out.below hz)
       clear hb hz)
    | (go_at_call 16; refine Calls.mono (k16 _ g 2 HC3.out) ?_; rintro e w4 ⟨rfl, rfl⟩))
  go_ret
  exact ⟨rfl, HB3.out⟩
end Go.Proofs.Ytjolnjckgoilpaa.Rs
end
