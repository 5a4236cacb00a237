/-
  (*rs.Code).parity: both rows of parity.
-/
import Derived.Test.YtjolnjckgoilpaaRsTimes
set_option linter.unusedVariables false
set_option linter.unusedSimpArgs false
namespace Go.Proofs.Ytjolnjckgoilpaa.Rs
open Go.RowKit Go.Proofs.YtjolnjckgoilpaaW.PrintWords Go.Proofs.YtjolnjckgoilpaaW.PrintLast Go.Proofs.YtjolnjckgoilpaaW.PrintMore Go.Proofs.Ytjolnjckgoilpaa.PRa Go.Proofs.Ytjolnjckgoilpaa.Gf
/-- The code of k, as New makes it, in a block of its own. -/
def pairsL (k : Nat) : List (List Int) := matrix 2 k fun i j => ((GfM.g (i * j) : Nat) : Int)
def CodeAt (W : World) (g k : Nat) : Prop := ∃ A c, W.heap[g]? = some (.cells #[.int .i64 k, .slice A 2 c] 48 (0, 0)) ∧ 2 ≤ c ∧ KR.C W A 2 (pairsL k)
theorem CodeAt.below {W W1 : World} {g k : Nat} (h : CodeAt W g k) (hb : Below W.heap.size W W1) : CodeAt W1 g k := by
  obtain ⟨A, c, h1, h2, h3⟩ := h
  exact ⟨A, c, (hb.block g (heap_lt h1)).trans h1, h2, Kd.C_below h3 hb⟩
def NewQ (w : World) (k : Int) (e : Ending) (w' : World) : Prop := Below w.heap.size w w' ∧
    if 1 ≤ k ∧ k ≤ 32 then ∃ g, e = .returned (.tuple #[.pointer (some ⟨g, 0, none⟩), .int .i64 0]) ∧ w.heap.size ≤ g ∧ CodeAt w' g k.toNat else e = .returned (.tuple #[.pointer none, .int .i64 1])
theorem newQ_no {w : World} {k : Int} (h : ¬ (1 ≤ k ∧ k ≤ 32)) : NewQ w k (.returned (.tuple #[.pointer none, .int .i64 1])) w := ⟨Below.refl _ _, by rw [if_neg h]⟩
theorem newQ_yes {w w1 : World} {n : Nat} {v : Value} (h1 : 1 ≤ n) (h2 : n ≤ 32) (hb : Below w.heap.size w w1) (hb2 : w1.heap[w.heap.size]? = some (.cells #[.int .i64 n, .slice none 0 0] 48 (0, 0))) (hv : Kd.S KR 25 w1 (w.heap.size + 1) (fun _ => True) v (pairsL n)) :
    NewQ w n (.returned (.tuple #[.pointer (some ⟨w.heap.size, 0, none⟩), .int .i64 0])) (w1.setCell ⟨w.heap.size, 1, none⟩ v) := by
  refine ⟨below_set hb (Nat.le_refl _), ?_⟩
  rw [if_pos ⟨by omega, by omega⟩]
  refine ⟨_, rfl, Nat.le_refl _, ?_⟩
  have hR := Kd.S_R hv
  obtain ⟨A, c, rfl, hl, hC⟩ := Kd.R_reads hR
  have e2 : (pairsL n).length = 2 := by simp [pairsL, matrix]
  rw [e2] at hl hC ⊢
  refine ⟨A, c, ?_, hl, ?_⟩
  · have := blkset hb2 1 (.slice A 2 c)
    rw [this]
    rfl
  · have hR2 : Kd.R KR 25 (w1.setCell ⟨w.heap.size, 1, none⟩ (.slice A 2 c)) (w.heap.size + 1) (fun _ => True) (.slice A (pairsL n).length c) (pairsL n) := by
      rw [e2]
      exact Kd.R_set hR hb2 (by simp [KR, Kd.slice, Kd.int, Kd.scalar]) 1 _
    have := (Kd.R_reads' hR2).2.2
    rw [e2] at this
    exact this
set_option maxHeartbeats 8000000 in
set_option maxRecDepth 100000 in
theorem new10 (w : World) (k : Int) : Calls Try.prog 10 #[.int .i64 k] w (NewQ w k) := by
  go_enter Try.func10, Try.ntmps10
  by_cases h1 : 1 ≤ k
  · by_cases h2 : k ≤ 32
    · obtain ⟨n, rfl⟩ : ∃ n : Nat, k = n := ⟨k.toNat, by omega⟩
      have b1 : decide ((n : Int) < 1) = false := decide_eq_false (by omega)
      have b2 : decide ((32 : Int) < (n : Int)) = false := decide_eq_false (by omega)
      have HP := Aside0.mk (fun (W : World) => gf_Pairs.calls (n : Int) (pairsL n) 0 W (by unfold gf_Pairs.f; rw [if_neg (by omega), if_neg (by omega)]; rfl))
      go_wp2_with (go_at_call 20; refine Calls.mono (HP.out _) ?_; rintro e w1 ⟨v, rfl, hv, hb⟩; obtain ⟨A1, c1, rfl, _⟩ := Kd.S_reads hv; have hblk : w1.heap[w.heap.size]? = some (.cells #[.int .i64 (n : Int), .slice none 0 0] 48 (0, 0)) := (hb.block w.heap.size (by simp)).trans (heap_alloc_last _ _); have hcell : w1.cell? ⟨w.heap.size, 1, none⟩ = some (.slice none 0 0) := (by rw [cell_of_row w1 w.heap.size 1 _ 48 (0, 0) hblk]; rfl); have hfr : w1.frozen? ⟨w.heap.size, 1, none⟩ = false := frozen_blk hblk; have HV := Aside0.mk (newQ_yes (by omega) (by omega) (below_then (below_alloc (Below.refl _ _) _) (by simp) hb) hblk (by simpa using hv)); clear hv hb hblk)
      go_ret2
      exact HV.out
    · have b1 : decide (k < 1) = false := decide_eq_false (by omega)
      have b2 : decide (32 < k) = true := decide_eq_true (by omega)
      have HN := Aside0.mk (newQ_no (w := w) (k := k) (by omega))
      go_wp2_with fail
      go_ret2
      exact HN.out
  · have b1 : decide (k < 1) = true := decide_eq_true (by omega)
    have HN := Aside0.mk (newQ_no (w := w) (k := k) (by omega))
    go_wp2_with fail
    go_ret2
    exact HN.out
/-- The r-th row of parity. -/
def rho (r i : Nat) : Nat := GfM.g (r * i)
theorem row_pairs {k r : Nat} (hr : r < 2) : row (pairsL k) r = (List.range k).map fun j => ((rho r j : Nat) : Int) := by simp [row, pairsL, matrix, List.getD, hr, rho]
def TimesQ (w : World) (m : Nat) (f : Nat → Nat) (e : Ending) (w' : World) : Prop := ∃ g, e = .returned (.slice (some ⟨g, 0, none⟩) m m) ∧ w.heap.size ≤ g ∧ RowAt w' g m f ∧ Below w.heap.size w w'
/-- Two rows in a slice of their own. -/
structure PairAt (w W : World) (b g0 g1 m : Nat) (f0 f1 : Nat → Nat) : Prop where
  below : Below w.heap.size w W
  top : W.heap[b]? = some (.cells #[.slice (some ⟨g0, 0, none⟩) m m, .slice (some ⟨g1, 0, none⟩) m m] 25 (0, 0))
  row0 : RowAt W g0 m f0
  row1 : RowAt W g1 m f1
  ge : w.heap.size ≤ g0
  lt : g0 < g1
  lt2 : g1 < b
def ParQ (w : World) (k m : Nat) (l : List (List Int)) (e : Ending) (w' : World) : Prop := ∃ b g0 g1, e = .returned (.slice (some ⟨b, 0, none⟩) 2 2) ∧ PairAt w w' b g0 g1 m (tcol (rho 0) l k) (tcol (rho 1) l k)
theorem par_end {w w1 w2 w3 : World} {m g0 g1 : Nat} {f0 f1 : Nat → Nat} (h0 : Below w.heap.size w w1) (hg0 : w1.heap.size ≤ g0) (hr0 : RowAt w2 g0 m f0) (hb0 : Below w1.heap.size w1 w2) (hg1 : w2.heap.size ≤ g1) (hr1 : RowAt w3 g1 m f1) (hb1 : Below w2.heap.size w2 w3) :
    PairAt w (w3.alloc (.cells #[.slice (some ⟨g0, 0, none⟩) m m, .slice (some ⟨g1, 0, none⟩) m m] 25)) w3.heap.size g0 g1 m f0 f1 where
  below := below_alloc (below_then (below_then h0 h0.size hb0) (below_then h0 h0.size hb0).size hb1) _
  top := heap_alloc_last _ _
  row0 := blkalloc ((hb1.block g0 (heap_lt hr0)).trans hr0) _
  row1 := blkalloc hr1 _
  ge := by have := h0.size; omega
  lt := by have := heap_lt hr0; omega
  lt2 := heap_lt hr1
def parity26.T1 : Bool × List (List Nat × List Nat) := (true, [([], []), ([0], [0]), ([1], [1]), ([2], [2]), ([3], [3]), ([4], [4]), ([], []), ([5, 6], [5, 6]), ([], []), ([8], [8]), ([9], [9]), ([10], [10]), ([11], [11]), ([12], [12]), ([], []), ([13, 14, 7], [13, 14]), ([7, 15], [7, 15]), ([16, 15, 0, 1, 2, 3, 4, 5, 6, 7, 8, 9, 10, 11, 12, 13, 14, 15, 16], [16])])
def parity26.B1 : List Nat := [0, 1, 3, 7, 15, 31, 0, 127, 0, 256, 768, 1792, 3840, 7936, 0, 32767, 65535, 131071]
theorem parity26.tab1 : rtab .any (opsOf Try.f26 1) = parity26.T1 := by kernel_rfl
theorem parity26.bits1 : waitsOk parity26.T1.2 parity26.B1 = true := by kernel_rfl
set_option maxHeartbeats 8000000 in
set_option maxRecDepth 100000 in
theorem parity26 (w : World) (g k : Nat) (hc : CodeAt w g k) (hk : 1 ≤ k) (hk2 : k ≤ 32) (B : Option Addr) (d : Nat) (l : List (List Int)) (hL : KR.C w B k l) (hl : l.length = k) (m : Nat) (hm9 : m ≤ 1000000) (hok : okB l = true) (hm : ∀ i, i < k → (row l i).length = m) :
    Calls Try.prog 26 #[.pointer (some ⟨g, 0, none⟩), .slice B k d] w (ParQ w k m l) := by
  obtain ⟨A, c, hg, hc2, hP⟩ := hc
  obtain ⟨ad, A0, c0, eA, hx0, hl0, hi0⟩ := rows_at hP (i := 0) (by omega)
  obtain ⟨ad', A1, c1, eA', hx1, hl1, hi1⟩ := rows_at hP (i := 1) (by omega)
  subst eA
  obtain rfl : ad = ad' := by injection eA'
  have e0 : (row (pairsL k) 0).length = k := by rw [row_pairs (by omega)]; simp
  have e1 : (row (pairsL k) 1).length = k := by rw [row_pairs (by omega)]; simp
  have HT : ∀ (r : Nat) (hr : r < 2) (A0 : Option Addr) (c0 : Nat) (hi0 : KB.C w A0 (row (pairsL k) r).length (row (pairsL k) r)) (e0 : (row (pairsL k) r).length = k), Aside0 (∀ W, Below w.heap.size w W → Calls Try.prog 32 #[.slice A0 k c0, .slice B k d] W (TimesQ W m (tcol (rho r) l k))) := fun r hr A0 c0 hi0 e0 => ⟨fun W hW => by
    have := times32 W A0 c0 (row (pairsL k) r) (Kd.C_below hi0 hW) (rho r) (fun i => GfM.g_lt _) (fun i hi => by rw [row_pairs hr] at hi ⊢; simp at hi; simp [List.getD, hi]) B d l (by rw [hl]; exact Kd.C_below hL hW) k m hl (by omega) (by omega) (by omega) hm9 hok hm
    rw [e0] at this
    exact this⟩
  have HT0 := HT 0 (by omega) A0 c0 hi0 e0
  have HT1 := HT 1 (by omega) A1 c1 hi1 e1
  rw [e0] at hx0
  rw [e1] at hx1
  have cg : w.cell? ⟨g, 1, none⟩ = some (.slice (some ad) 2 c) := by rw [cell_of_row w g 1 _ 48 (0, 0) hg]; rfl
  clear HT hi0 hi1 e0 e1 hl0 hl1 eA' hL hok hm hP hg hl
  rw [show ad.add 0 = ad by simp [Addr.add]] at hx0
  rw [show ad.add 1 = ⟨ad.block, ad.off + 1, none⟩ by simp [Addr.add]] at hx1
  go_enter Try.func26, Try.ntmps26
  go_wp2_with fail
  refine start_ (n := 18) (S := fun w' => w'.cell? ⟨g, 1, none⟩ = some (.slice (some ad) 2 c) ∧ w'.cell? ad = some (.slice A0 k c0) ∧ w'.cell? ⟨ad.block, ad.off + 1, none⟩ = some (.slice A1 k c1)) (ds := []) #[false, false, false, false, false, false, false, false, false, false, false, false, false, false, false, false, false, false] (by kernel_rfl) rfl rfl ⟨cg, hx0, hx1⟩ (fun hHeld => ?_)
  refine with_tabW parity26.tab1 parity26.bits1 (fun HT_ HW_ => ?_)
  refine pure_ (i := 0) (N := some 5) (v := ?_) (a' := ?_) #[true, false, false, false, false, false, false, false, false, false, false, false, false, false, false, false, false, false] rfl rfl (any_of HT_.out (by kernel_rfl)) (fun _ _ _ h => h) (Or.inl ⟨by rfl, ?_⟩) ?_ ?_
  rotate_left
  · intro w'
    go_simp
    with_reducible rfl
  rotate_left
  · simp only [Act.put, List.setIfInBounds_toArray, List.set_cons_zero, List.set_cons_succ, i64_w, i32_w]
    rfl
  refine pure_ (i := 1) (N := some 6) (v := ?_) (a' := ?_) #[true, true, false, false, false, false, false, false, false, false, false, false, false, false, false, false, false, false] rfl rfl (any_of HT_.out (by kernel_rfl)) (fun _ _ _ h => h) (Or.inl ⟨by rfl, ?_⟩) ?_ ?_
  rotate_left
  · intro w'
    go_simp
    with_reducible rfl
  rotate_left
  · simp only [Act.put, List.setIfInBounds_toArray, List.set_cons_zero, List.set_cons_succ, i64_w, i32_w]
    rfl
  refine pure_ (i := 2) (N := some 7) (v := ?_) (a' := ?_) #[true, true, true, false, false, false, false, false, false, false, false, false, false, false, false, false, false, false] rfl rfl (any_of HT_.out (by kernel_rfl)) (fun _ _ _ h => h) (Or.inl ⟨by rfl, ?_⟩) ?_ ?_
  rotate_left
  · intro w'
    go_simp
    with_reducible rfl
  rotate_left
  · simp only [Act.put, List.setIfInBounds_toArray, List.set_cons_zero, List.set_cons_succ, i64_w, i32_w]
    rfl
  refine pure_ (i := 6) (N := some 11) (v := ?_) (a' := ?_) #[true, true, true, false, false, false, true, false, false, false, false, false, false, false, false, false, false, false] rfl rfl (any_of HT_.out (by kernel_rfl)) (fun _ _ _ h => h) (Or.inl ⟨by rfl, ?_⟩) ?_ ?_
  rotate_left
  · intro w'
    go_simp
    with_reducible rfl
  rotate_left
  · simp only [Act.put, List.setIfInBounds_toArray, List.set_cons_zero, List.set_cons_succ, i64_w, i32_w]
    rfl
  refine pure_ (i := 8) (N := some 13) (v := ?_) (a' := ?_) #[true, true, true, false, false, false, true, false, true, false, false, false, false, false, false, false, false, false] rfl rfl (any_of HT_.out (by kernel_rfl)) (fun _ _ _ h => h) (Or.inl ⟨by rfl, ?_⟩) ?_ ?_
  rotate_left
  · intro w'
    go_simp
    with_reducible rfl
  rotate_left
  · simp only [Act.put, List.setIfInBounds_toArray, List.set_cons_zero, List.set_cons_succ, i64_w, i32_w]
    rfl
  refine pure_ (i := 9) (N := some 14) (v := ?_) (a' := ?_) #[true, true, true, false, false, false, true, false, true, true, false, false, false, false, false, false, false, false] rfl rfl (any_of HT_.out (by kernel_rfl)) (fun _ _ _ h => h) (Or.inl ⟨by rfl, ?_⟩) ?_ ?_
  rotate_left
  · intro w'
    go_simp
    with_reducible rfl
  rotate_left
  · simp only [Act.put, List.setIfInBounds_toArray, List.set_cons_zero, List.set_cons_succ, i64_w, i32_w]
    rfl
  refine pure_ (i := 10) (N := some 15) (v := ?_) (a' := ?_) #[true, true, true, false, false, false, true, false, true, true, true, false, false, false, false, false, false, false] rfl rfl (any_of HT_.out (by kernel_rfl)) (fun _ _ _ h => h) (Or.inl ⟨by rfl, ?_⟩) ?_ ?_
  rotate_left
  · intro w'
    go_simp
    with_reducible rfl
  rotate_left
  · simp only [Act.put, List.setIfInBounds_toArray, List.set_cons_zero, List.set_cons_succ, i64_w, i32_w]
    rfl
  refine pure_ (i := 14) (N := some 19) (v := ?_) (a' := ?_) #[true, true, true, false, false, false, true, false, true, true, true, false, false, false, true, false, false, false] rfl rfl (any_of HT_.out (by kernel_rfl)) (fun _ _ _ h => h) (Or.inl ⟨by rfl, ?_⟩) ?_ ?_
  rotate_left
  · intro w'
    go_simp
    with_reducible rfl
  rotate_left
  · simp only [Act.put, List.setIfInBounds_toArray, List.set_cons_zero, List.set_cons_succ, i64_w, i32_w]
    rfl
  refine take_ (i := 3) (N := some 8) (v := ?_) (a' := ?_) #[true, true, true, true, false, false, true, false, true, true, true, false, false, false, true, false, false, false] rfl rfl (take_ofW HT_.out HW_.out (by kernel_rfl)) (fun _ _ _ h => h) (Or.inl ⟨by rfl, ?_⟩) hHeld ?_ ?_
  rotate_left
  · rintro w' ⟨s0, s1, s2⟩
    go_simp
    with_reducible rfl
  rotate_left
  · simp only [Act.put, List.setIfInBounds_toArray, List.set_cons_zero, List.set_cons_succ, i64_w, i32_w]
    rfl
  refine pure_ (i := 4) (N := some 9) (v := ?_) (a' := ?_) #[true, true, true, true, true, false, true, false, true, true, true, false, false, false, true, false, false, false] rfl rfl (any_of HT_.out (by kernel_rfl)) (fun _ _ _ h => h) (Or.inl ⟨by rfl, ?_⟩) ?_ ?_
  rotate_left
  · intro w'
    go_simp
    with_reducible rfl
  rotate_left
  · simp only [Act.put, List.setIfInBounds_toArray, List.set_cons_zero, List.set_cons_succ, i64_w, i32_w]
    rfl
  refine take_ (i := 5) (N := some 10) (v := ?_) (a' := ?_) #[true, true, true, true, true, true, true, false, true, true, true, false, false, false, true, false, false, false] rfl rfl (take_ofW HT_.out HW_.out (by kernel_rfl)) (fun _ _ _ h => h) (Or.inl ⟨by rfl, ?_⟩) hHeld ?_ ?_
  rotate_left
  · rintro w' ⟨s0, s1, s2⟩
    go_simp
    with_reducible rfl
  rotate_left
  · simp only [Act.put, List.setIfInBounds_toArray, List.set_cons_zero, List.set_cons_succ, i64_w, i32_w]
    rfl
  refine take_ (i := 11) (N := some 16) (v := ?_) (a' := ?_) #[true, true, true, true, true, true, true, false, true, true, true, true, false, false, true, false, false, false] rfl rfl (take_ofW HT_.out HW_.out (by kernel_rfl)) (fun _ _ _ h => h) (Or.inl ⟨by rfl, ?_⟩) hHeld ?_ ?_
  rotate_left
  · rintro w' ⟨s0, s1, s2⟩
    go_simp
    with_reducible rfl
  rotate_left
  · simp only [Act.put, List.setIfInBounds_toArray, List.set_cons_zero, List.set_cons_succ, i64_w, i32_w]
    rfl
  refine pure_ (i := 12) (N := some 17) (v := ?_) (a' := ?_) #[true, true, true, true, true, true, true, false, true, true, true, true, true, false, true, false, false, false] rfl rfl (any_of HT_.out (by kernel_rfl)) (fun _ _ _ h => h) (Or.inl ⟨by rfl, ?_⟩) ?_ ?_
  rotate_left
  · intro w'
    go_simp
    with_reducible rfl
  rotate_left
  · simp only [Act.put, List.setIfInBounds_toArray, List.set_cons_zero, List.set_cons_succ, i64_w, i32_w]
    rfl
  refine take_ (i := 13) (N := some 18) (v := ?_) (a' := ?_) #[true, true, true, true, true, true, true, false, true, true, true, true, true, true, true, false, false, false] rfl rfl (take_ofW HT_.out HW_.out (by kernel_rfl)) (fun _ _ _ h => h) (Or.inl ⟨by rfl, ?_⟩) hHeld ?_ ?_
  rotate_left
  · rintro w' ⟨s0, s1, s2⟩
    go_simp
    with_reducible rfl
  rotate_left
  · simp only [Act.put, List.setIfInBounds_toArray, List.set_cons_zero, List.set_cons_succ, i64_w, i32_w]
    rfl
  refine one_ (i := 7) (N := some 12) #[true, true, true, true, true, true, true, true, true, true, true, true, true, true, true, false, false, false] rfl rfl (one_of HT_.out (by kernel_rfl)) (by decide) (fun K hK => ?_)
  refine goes_ Try.func32 (by kernel_rfl) rfl #[.slice A0 k c0, .slice B k d] (by rfl) rfl rfl (by simp only [List.map_toArray, List.map_cons, List.map_nil]; rfl) ?_
  refine Calls.mono (HT0.out _ (below_drew (Below.refl _ _))) ?_
  rintro e w7 ⟨g0, rfl, hg0, hr0, hb0⟩
  refine ⟨_, rfl, ?_⟩
  refine hK.out _ _ ⟨pw_cell_below hb0 hHeld.1, pw_cell_below hb0 hHeld.2.1, pw_cell_below hb0 hHeld.2.2⟩ (fun hHeld => ?_)
  clear hK K
  refine norm_ (a' := ?_) ?_ ?_
  rotate_left
  · show Act.put _ (some 12) _ = _
    simp only [Act.put, List.setIfInBounds_toArray, List.set_cons_zero, List.set_cons_succ, i64_w, i32_w]
    rfl
  refine one_ (i := 15) (N := some 20) #[true, true, true, true, true, true, true, true, true, true, true, true, true, true, true, true, false, false] rfl rfl (one_of HT_.out (by kernel_rfl)) (by decide) (fun K hK => ?_)
  refine goes_ Try.func32 (by kernel_rfl) rfl #[.slice A1 k c1, .slice B k d] (by rfl) rfl rfl (by simp only [List.map_toArray, List.map_cons, List.map_nil]; rfl) ?_
  refine Calls.mono (HT1.out _ (below_then (below_drew (Below.refl _ _)) (by simp) hb0)) ?_
  rintro e w15 ⟨g1, rfl, hg1, hr1, hb1⟩
  refine ⟨_, rfl, ?_⟩
  refine hK.out _ _ ⟨pw_cell_below hb1 hHeld.1, pw_cell_below hb1 hHeld.2.1, pw_cell_below hb1 hHeld.2.2⟩ (fun hHeld => ?_)
  clear hK K
  refine norm_ (a' := ?_) ?_ ?_
  rotate_left
  · show Act.put _ (some 20) _ = _
    simp only [Act.put, List.setIfInBounds_toArray, List.set_cons_zero, List.set_cons_succ, i64_w, i32_w]
    rfl
  refine one_ (i := 16) (N := some 21) #[true, true, true, true, true, true, true, true, true, true, true, true, true, true, true, true, true, false] rfl rfl (one_of HT_.out (by kernel_rfl)) (by decide) (fun K hK => ?_)
  refine value_ (w1 := ?_) (v := ?_) (by rfl) rfl ?_ ?_
  rotate_left 2
  · go_simp
    constructor
    · rfl
    · rfl
  refine hK.out _ _ ⟨pw_cell_below (below1 _ _) hHeld.1, pw_cell_below (below1 _ _) hHeld.2.1, pw_cell_below (below1 _ _) hHeld.2.2⟩ (fun hHeld => ?_)
  clear hK K
  refine norm_ (a' := ?_) ?_ ?_
  rotate_left
  · show Act.put _ (some 21) _ = _
    simp only [Act.put, List.setIfInBounds_toArray, List.set_cons_zero, List.set_cons_succ, i64_w, i32_w]
    rfl
  refine pure_ (i := 17) (N := some 4) (v := ?_) (a' := ?_) #[true, true, true, true, true, true, true, true, true, true, true, true, true, true, true, true, true, true] rfl rfl (any_of HT_.out (by kernel_rfl)) (fun _ _ _ h => h) (Or.inl ⟨by rfl, ?_⟩) ?_ ?_
  rotate_left
  · intro w'
    go_simp
    with_reducible rfl
  rotate_left
  · simp only [Act.put, List.setIfInBounds_toArray, List.set_cons_zero, List.set_cons_succ, i64_w, i32_w]
    rfl
  refine done_ (done_of HT_.out (by kernel_rfl)) ?_
  go_wp2_with fail
  go_ret
  exact ⟨_, _, _, rfl, par_end (below_drew (Below.refl _ _)) hg0 hr0 hb0 hg1 hr1 hb1⟩
end Go.Proofs.Ytjolnjckgoilpaa.Rs
