/- Several texts of this session laid together: GfGrid, GfBoth, GfUnit, GfSt. -/
import Derived.Test.YtjolnjckgoilpaaGfRows
import Derived.BigRegion
import Derived.Test.YtjolnjckgoilpaaGfTimes
section
/-
  Square matrices that the call owns, written in place: two rows exchanged, a row scaled, a row added to another one: the closures of gf.Matrix.Inverse.
-/
set_option linter.unusedVariables false
set_option linter.unusedSimpArgs false
namespace Go.Proofs.Ytjolnjckgoilpaa.Gf
open Go.RowKit Go.Proofs.YtjolnjckgoilpaaW.PrintWords Go.Proofs.YtjolnjckgoilpaaW.PrintLast Go.Proofs.Ytjolnjckgoilpaa.PRa

structure Grid (w : World) (g : Nat) (b : Nat → Nat) (n : Nat) (f : Nat → Nat → Nat) : Prop where
  top : w.heap[g]? = some (.cells (topCells n n n b) 25 (0, 0))
  row : ∀ j, j < n → RowAt w (b j) n (f j)
  inj : ∀ i j, i < n → j < n → b i = b j → i = j
theorem Grid.cell {w : World} {g n k : Nat} {b : Nat → Nat} {f : Nat → Nat → Nat} (h : Grid w g b n f) (hk : k < n) : w.cell? ⟨g, k, none⟩ = some (.slice (some ⟨b k, 0, none⟩) n n) := by
  rw [cell_of_row w g k _ 25 (0, 0) h.top, topCells_at hk hk]
theorem Grid.frozen {w : World} {g n : Nat} {b : Nat → Nat} {f : Nat → Nat → Nat} (h : Grid w g b n f) (k : Nat) : w.frozen? ⟨g, k, none⟩ = false := by simp [World.frozen?, h.top]
theorem type_ne {w : World} {g g' : Nat} {t t' : TypeId} {cs cs' : Array Value} (h : w.heap[g]? = some (.cells cs t (0, 0))) (h' : w.heap[g']? = some (.cells cs' t' (0, 0))) (hne : t ≠ t') : g ≠ g' := by
  rintro rfl
  rw [h] at h'
  injection h' with h'
  injection h' with _ ht
  exact hne ht
theorem Grid.kept {w w' : World} {g n : Nat} {b : Nat → Nat} {f : Nat → Nat → Nat} {x : Nat} (h : Grid w g b n f) (hg : w.grownBy w' (some x)) (h1 : g ≠ x) (h2 : ∀ j, j < n → b j ≠ x) : Grid w' g b n f :=
  ⟨(hg.block g (heap_lt h.top) (by intro e; injection e with e; exact h1 e)).trans h.top, fun j hj => (h.row j hj).kept hg (by intro e; injection e with e; exact h2 j hj e), h.inj⟩
theorem Grid.below {w w' : World} {g n : Nat} {b : Nat → Nat} {f : Nat → Nat → Nat} (h : Grid w g b n f) (hb : Below w.heap.size w w') : Grid w' g b n f :=
  ⟨(hb.block g (heap_lt h.top)).trans h.top, fun j hj => (hb.block _ (heap_lt (h.row j hj))).trans (h.row j hj), h.inj⟩
theorem Grid.rowset {w w' : World} {g n k : Nat} {b : Nat → Nat} {f : Nat → Nat → Nat} {r : Nat → Nat} (h : Grid w g b n f) (hk : k < n) (hg : w.grownBy w' (some (b k))) (hr : RowAt w' (b k) n r) : Grid w' g b n (fun q => if q = k then r else f q) := by
  refine ⟨(hg.block g (heap_lt h.top) (by intro e; injection e with e; exact type_ne h.top (h.row k hk) (by decide) e)).trans h.top, fun j hj => ?_, h.inj⟩
  by_cases e : j = k
  · subst e; simp only [if_true]; exact hr
  · simp only [if_neg e]
    exact (h.row j hj).kept hg (by intro e2; injection e2 with e2; exact e (h.inj j k hj hk e2))
theorem Grid.drew {w : World} {g n : Nat} {b : Nat → Nat} {f : Nat → Nat → Nat} (h : Grid w g b n f) : Grid w.drew g b n f := ⟨h.top, h.row, h.inj⟩
theorem Grid.drewN {w : World} {g n : Nat} {b : Nat → Nat} {f : Nat → Nat → Nat} (h : Grid w g b n f) (m : Nat) : Grid (w.drewN m) g b n f := ⟨h.top, h.row, h.inj⟩
theorem Grid.same {w : World} {g n : Nat} {b : Nat → Nat} {f f' : Nat → Nat → Nat} (h : Grid w g b n f) (e : ∀ i j, i < n → j < n → f i j = f' i j) : Grid w g b n f' := ⟨h.top, fun j hj => (h.row j hj).same (fun c hc => e j c hj hc), h.inj⟩
/-- Exchanged. -/
def swp {α : Type} (f : Nat → α) (i j : Nat) : Nat → α := fun q => if q = i then f j else if q = j then f i else f q
def sw (i j q : Nat) : Nat := if q = i then j else if q = j then i else q
theorem sw_sw (i j q : Nat) : sw i j (sw i j q) = q := by
  unfold sw
  by_cases e1 : q = i
  · rw [if_pos e1]
    by_cases e2 : j = i
    · rw [if_pos e2]; omega
    · rw [if_neg e2, if_pos rfl]; omega
  · rw [if_neg e1]
    by_cases e2 : q = j
    · rw [if_pos e2, if_pos rfl]; omega
    · rw [if_neg e2, if_neg e1, if_neg e2]
theorem sw_lt {i j q n : Nat} (hi : i < n) (hj : j < n) (hq : q < n) : sw i j q < n := by
  unfold sw
  split
  · exact hj
  · split
    · exact hi
    · exact hq
theorem topCells_put {n : Nat} {b : Nat → Nat} (i a : Nat) : (topCells n n n b).setIfInBounds i (.slice (some ⟨a, 0, none⟩) n n) = topCells n n n (fun q => if q = i then a else b q) := by
  apply Array.ext
  · simp [topCells]
  · intro k h1 h2
    simp [topCells] at h1
    rw [Array.getElem_setIfInBounds]
    simp [topCells]
    by_cases e : i = k
    · subst e; simp [h1]
    · simp [e, Ne.symm e, h1]
    simpa [topCells] using h1
theorem Grid.swap {w : World} {g n i j : Nat} {b : Nat → Nat} {f : Nat → Nat → Nat} (h : Grid w g b n f) (hi : i < n) (hj : j < n) :
    Grid ((w.setCell ⟨g, i, none⟩ (.slice (some ⟨b j, 0, none⟩) n n)).setCell ⟨g, j, none⟩ (.slice (some ⟨b i, 0, none⟩) n n)) g (swp b i j) n (swp f i j) := by
  have hne : ∀ q, q < n → b q ≠ g := fun q hq => (type_ne h.top (h.row q hq) (by decide)).symm
  refine ⟨?_, fun q hq => ?_, fun p q hp hq e => ?_⟩
  · have h1 := blkset (blkset h.top i (.slice (some ⟨b j, 0, none⟩) n n)) j (.slice (some ⟨b i, 0, none⟩) n n)
    rw [topCells_put, topCells_put] at h1
    rw [h1]
    congr 2
    simp only [topCells]
    congr 1
    apply List.map_congr_left
    intro q hq
    have : q < n := by simpa using hq
    simp only [if_pos this, swp]
    by_cases e1 : q = j
    · subst e1
      by_cases e2 : q = i
      · subst e2; simp
      · simp [e2]
    · by_cases e2 : q = i
      · subst e2; simp [e1]
      · simp [e1, e2]
  · have hr : ∀ p, p < n → RowAt ((w.setCell ⟨g, i, none⟩ (.slice (some ⟨b j, 0, none⟩) n n)).setCell ⟨g, j, none⟩ (.slice (some ⟨b i, 0, none⟩) n n)) (b p) n (f p) := fun p hp => ((h.row p hp).far (hne p hp) _).far (hne p hp) _
    unfold swp
    by_cases e1 : q = i
    · simp only [if_pos e1]; exact hr j hj
    · by_cases e2 : q = j
      · simp only [if_neg e1, if_pos e2]; exact hr i hi
      · simp only [if_neg e1, if_neg e2]; exact hr q hq
  · have hs : ∀ q, swp b i j q = b (sw i j q) := fun q => by
      unfold swp sw
      by_cases e1 : q = i
      · rw [if_pos e1, if_pos e1]
      · rw [if_neg e1, if_neg e1]
        by_cases e2 : q = j
        · rw [if_pos e2, if_pos e2]
        · rw [if_neg e2, if_neg e2]
    rw [hs, hs] at e
    have := h.inj _ _ (sw_lt hi hj hp) (sw_lt hi hj hq) e
    rw [← sw_sw i j p, this, sw_sw]
/-! the closures -/
set_option maxHeartbeats 4000000 in
theorem swap52 (W : World) (g n k p kb pb : Nat) (b : Nat → Nat) (f : Nat → Nat → Nat) (h : Grid W g b n f) (hk : W.cell? ⟨kb, 0, none⟩ = some (.int .i64 (k : Nat))) (hp : W.cell? ⟨pb, 0, none⟩ = some (.int .i64 (p : Nat))) (hkp : k + p < n) (hn : n ≤ 1000000) :
    Calls Try.prog 51 #[.slice (some ⟨g, 0, none⟩) n n, .pointer (some ⟨kb, 0, none⟩), .pointer (some ⟨pb, 0, none⟩)] W fun e W' => e = .returned (.tuple #[]) ∧ W.grownBy W' (some g) ∧ Grid W' g (swp b k (k + p)) n (swp f k (k + p)) := by
  have c1 := h.cell (show k < n by omega)
  have c2 := h.cell (show k + p < n by omega)
  have f1 := h.frozen k
  have f2 := h.frozen (k + p)
  have HS : Hid (Grid ((W.setCell ⟨g, k, none⟩ (.slice (some ⟨b (k + p), 0, none⟩) n n)).setCell ⟨g, k + p, none⟩ (.slice (some ⟨b k, 0, none⟩) n n)) g (swp b k (k + p)) n (swp f k (k + p))) := h.swap (show k < n by omega) hkp
  have HG : Hid (∀ W : World, Grid W g b n f → Grid ((W.setCell ⟨g, k, none⟩ (.slice (some ⟨b (k + p), 0, none⟩) n n)).setCell ⟨g, k + p, none⟩ (.slice (some ⟨b k, 0, none⟩) n n)) g (swp b k (k + p)) n (swp f k (k + p))) := fun W h => h.swap (show k < n by omega) hkp
  have HH : Hid (Grid W g b n f) := h
  have n1 : kb ≠ g := by
    rintro rfl
    have := h.cell (show 0 < n by omega)
    rw [this] at hk
    cases hk
  have n2 : pb ≠ g := by
    rintro rfl
    have := h.cell (show 0 < n by omega)
    rw [this] at hp
    cases hp
  have hk3 : ∀ v, (W.setCell ⟨g, k, none⟩ v).drew.cell? ⟨kb, 0, none⟩ = some (.int .i64 (k : Nat)) := fun v => (cell_far (W := W) (p := ⟨g, k, none⟩) (a := ⟨kb, 0, none⟩) n1 v).trans hk
  have hp3 : ∀ v, (W.setCell ⟨g, k, none⟩ v).drew.cell? ⟨pb, 0, none⟩ = some (.int .i64 (p : Nat)) := fun v => (cell_far (W := W) (p := ⟨g, k, none⟩) (a := ⟨pb, 0, none⟩) n2 v).trans hp
  have q1 : (0 : Int) ≤ (k : Int) := by omega
  have q2 : (k : Int) < (n : Int) := by omega
  have q3 : (0 : Int) ≤ (k : Int) + (p : Int) := by omega
  have q4 : (k : Int) + (p : Int) < (n : Int) := by omega
  have q5 : ((k : Int) + (p : Int)).toNat = k + p := by omega
  clear h HS
  generalize b k = bk at *
  generalize b (k + p) = bp at *
  obtain ⟨v2, hv2⟩ := cell?_setCell_some (w := W) (p := ⟨g, k, none⟩) (x := .slice (some ⟨bp, 0, none⟩) n n) (q := ⟨g, k + p, none⟩) (v := .slice (some ⟨bp, 0, none⟩) n n) (by go_simp)
  have hv3 : (W.setCell ⟨g, k, none⟩ (.slice (some ⟨bp, 0, none⟩) n n)).drew.cell? ⟨g, k + p, none⟩ = some v2 := hv2
  go_enter Try.func51, Try.ntmps51
  go_region
  all_goals go_end0
  all_goals refine ⟨rfl, only_drew (only_set (only_set (World.grownBy.refl _ _) _ _) _ _), (HG.out _ HH.out).drew⟩
theorem grown_drew {w w' : World} {row : Option Nat} (h : w.drew.grownBy w' row) : w.grownBy w' row := ⟨h.os, h.tape, h.output, h.size, h.block⟩
set_option maxHeartbeats 1000000 in
theorem scale53 (W : World) (g n k kb yb y : Nat) (b : Nat → Nat) (f : Nat → Nat → Nat) (h : Grid W g b n f) (hk : W.cell? ⟨kb, 0, none⟩ = some (.int .i64 (k : Nat))) (hy : W.cell? ⟨yb, 0, none⟩ = some (.int .u8 (y : Nat))) (hkn : k < n) (hn : n ≤ 1000000) (hf : ∀ j, j < n → f k j < 256) (hy256 : y < 256) :
    Calls Try.prog 53 #[.slice (some ⟨g, 0, none⟩) n n, .pointer (some ⟨kb, 0, none⟩), .pointer (some ⟨yb, 0, none⟩)] W fun e W' => e = .returned (.tuple #[]) ∧ W.grownBy W' (some (b k)) ∧ RowAt W' (b k) n (fun j => GfM.M (f k j) y) := by
  have c1 := h.cell hkn
  have HS : Hid (Calls Try.prog 54 #[.slice (some ⟨b k, 0, none⟩) n n, .int .u8 y] W.drew fun e w' => e = .returned (.tuple #[]) ∧ W.drew.grownBy w' (some (b k)) ∧ RowAt w' (b k) n (fun j => GfM.M (f k j) y)) := scale54 W.drew (b k) n y (f k) (h.row k hkn).drew hf hy256 hn
  have q1 : (0 : Int) ≤ (k : Int) := by omega
  have q2 : (k : Int) < (n : Int) := by omega
  clear h hf
  generalize b k = bk at *
  go_enter Try.func53, Try.ntmps53
  refine start_ (n := 6) (S := fun w' => w'.cell? ⟨kb, 0, none⟩ = some (.int .i64 (k : Nat)) ∧ w'.cell? ⟨yb, 0, none⟩ = some (.int .u8 (y : Nat)) ∧ w'.cell? ⟨g, k, none⟩ = some (.slice (some ⟨bk, 0, none⟩) n n)) (ds := [5]) #[false, false, false, false, false, false] (by kernel_rfl) rfl rfl ⟨hk, hy, c1⟩ (fun hHeld => ?_)
  refine pure_ (i := 0) (N := some 4) (v := ?_) (a' := ?_) #[true, false, false, false, false, false] rfl rfl (by kernel_rfl) (fun _ _ _ h => h) (Or.inl ⟨by rfl, ?_⟩) ?_ ?_
  rotate_left
  · intro w'
    go_simp
    with_reducible rfl
  rotate_left
  · simp only [Act.put, List.setIfInBounds_toArray, List.set_cons_zero, List.set_cons_succ, i64_w, i32_w]
    rfl
  refine take_ (i := 1) (N := some 5) (v := ?_) (a' := ?_) #[true, true, false, false, false, false] rfl rfl (by kernel_rfl) (fun _ _ _ h => h) (Or.inl ⟨by rfl, ?_⟩) hHeld ?_ ?_
  rotate_left
  · rintro w' ⟨s0, s1, s2⟩
    go_simp
    with_reducible rfl
  rotate_left
  · simp only [Act.put, List.setIfInBounds_toArray, List.set_cons_zero, List.set_cons_succ, i64_w, i32_w]
    rfl
  refine pure_ (i := 2) (N := some 6) (v := ?_) (a' := ?_) #[true, true, true, false, false, false] rfl rfl (by kernel_rfl) (fun _ _ _ h => h) (Or.inl ⟨by rfl, ?_⟩) ?_ ?_
  rotate_left
  · intro w'
    go_simp
    with_reducible rfl
  rotate_left
  · simp only [Act.put, List.setIfInBounds_toArray, List.set_cons_zero, List.set_cons_succ, i64_w, i32_w]
    rfl
  refine take_ (i := 3) (N := some 7) (v := ?_) (a' := ?_) #[true, true, true, true, false, false] rfl rfl (by kernel_rfl) (fun _ _ _ h => h) (Or.inl ⟨by rfl, ?_⟩) hHeld ?_ ?_
  rotate_left
  · rintro w' ⟨s0, s1, s2⟩
    go_simp
    with_reducible rfl
  rotate_left
  · simp only [Act.put, List.setIfInBounds_toArray, List.set_cons_zero, List.set_cons_succ, i64_w, i32_w]
    rfl
  refine take_ (i := 4) (N := some 8) (v := ?_) (a' := ?_) #[true, true, true, true, true, false] rfl rfl (by kernel_rfl) (fun _ _ _ h => h) (Or.inl ⟨by rfl, ?_⟩) hHeld ?_ ?_
  rotate_left
  · rintro w' ⟨s0, s1, s2⟩
    go_simp
    with_reducible rfl
  rotate_left
  · simp only [Act.put, List.setIfInBounds_toArray, List.set_cons_zero, List.set_cons_succ, i64_w, i32_w]
    rfl
  refine last_ (i := 5) (N := some 9) #[true, true, true, true, true, true] rfl rfl (by kernel_rfl) (by decide) (fun K hK => ?_)
  refine goes_ Try.func54 (by kernel_rfl) rfl #[.slice (some ⟨bk, 0, none⟩) n n, .int .u8 (y : Nat)] (by rfl) rfl rfl (by simp only [List.map_toArray, List.map_cons, List.map_nil]; rfl) ?_
  refine Calls.mono (HS.out) ?_
  rintro e w2 ⟨rfl, hG, hR⟩
  refine ⟨_, rfl, ?_⟩
  refine hK.out _ _ ?_
  clear hK K
  refine norm_ (a' := ?_) ?_ ?_
  rotate_left
  · show Act.put _ (some 9) _ = _
    simp only [Act.put, List.setIfInBounds_toArray, List.set_cons_zero, List.set_cons_succ, i64_w, i32_w]
    rfl
  refine done_ (by kernel_rfl) ?_
  go_end0
  exact ⟨rfl, grown_drew hG, hR⟩
set_option maxHeartbeats 1000000 in
theorem plus55 (W : World) (g n i k ib kb yb y : Nat) (b : Nat → Nat) (f : Nat → Nat → Nat) (h : Grid W g b n f) (hi : W.cell? ⟨ib, 0, none⟩ = some (.int .i64 (i : Nat))) (hk : W.cell? ⟨kb, 0, none⟩ = some (.int .i64 (k : Nat))) (hy : W.cell? ⟨yb, 0, none⟩ = some (.int .u8 (y : Nat))) (hin : i < n) (hkn : k < n) (hne : i ≠ k) (hn : n ≤ 1000000) (hf : ∀ j, j < n → f i j < 256) (hf2 : ∀ j, j < n → f k j < 256) (hy256 : y < 256) :
    Calls Try.prog 55 #[.slice (some ⟨g, 0, none⟩) n n, .pointer (some ⟨ib, 0, none⟩), .pointer (some ⟨kb, 0, none⟩), .pointer (some ⟨yb, 0, none⟩)] W fun e W' => e = .returned (.tuple #[]) ∧ W.grownBy W' (some (b i)) ∧ RowAt W' (b i) n (mixf (f i) (f k) y) := by
  have c1 := h.cell hin
  have c2 := h.cell hkn
  have HS : Hid (Calls Try.prog 56 #[.slice (some ⟨b i, 0, none⟩) n n, .slice (some ⟨b k, 0, none⟩) n n, .int .u8 y] W.drew fun e w' => e = .returned (.tuple #[]) ∧ W.drew.grownBy w' (some (b i)) ∧ RowAt w' (b i) n (mixf (f i) (f k) y)) :=
    plus56 W.drew (b i) (b k) n y (f i) (f k) (h.row i hin).drew (h.row k hkn).drew (fun e => hne (h.inj i k hin hkn e.symm)) hf hf2 hy256 hn
  have q1 : (0 : Int) ≤ (k : Int) := by omega
  have q2 : (k : Int) < (n : Int) := by omega
  have q3 : (0 : Int) ≤ (i : Int) := by omega
  have q4 : (i : Int) < (n : Int) := by omega
  clear h hf hf2
  generalize b k = bk at *
  generalize b i = bi at *
  go_enter Try.func55, Try.ntmps55
  refine start_ (n := 10) (S := fun w' => w'.cell? ⟨ib, 0, none⟩ = some (.int .i64 (i : Nat)) ∧ w'.cell? ⟨kb, 0, none⟩ = some (.int .i64 (k : Nat)) ∧ w'.cell? ⟨yb, 0, none⟩ = some (.int .u8 (y : Nat)) ∧ w'.cell? ⟨g, i, none⟩ = some (.slice (some ⟨bi, 0, none⟩) n n) ∧ w'.cell? ⟨g, k, none⟩ = some (.slice (some ⟨bk, 0, none⟩) n n)) (ds := [9]) #[false, false, false, false, false, false, false, false, false, false] (by kernel_rfl) rfl rfl ⟨hi, hk, hy, c1, c2⟩ (fun hHeld => ?_)
  refine pure_ (i := 0) (N := some 5) (v := ?_) (a' := ?_) #[true, false, false, false, false, false, false, false, false, false] rfl rfl (by kernel_rfl) (fun _ _ _ h => h) (Or.inl ⟨by rfl, ?_⟩) ?_ ?_
  rotate_left
  · intro w'
    go_simp
    with_reducible rfl
  rotate_left
  · simp only [Act.put, List.setIfInBounds_toArray, List.set_cons_zero, List.set_cons_succ, i64_w, i32_w]
    rfl
  refine pure_ (i := 4) (N := some 9) (v := ?_) (a' := ?_) #[true, false, false, false, true, false, false, false, false, false] rfl rfl (by kernel_rfl) (fun _ _ _ h => h) (Or.inl ⟨by rfl, ?_⟩) ?_ ?_
  rotate_left
  · intro w'
    go_simp
    with_reducible rfl
  rotate_left
  · simp only [Act.put, List.setIfInBounds_toArray, List.set_cons_zero, List.set_cons_succ, i64_w, i32_w]
    rfl
  refine take_ (i := 1) (N := some 6) (v := ?_) (a' := ?_) #[true, true, false, false, true, false, false, false, false, false] rfl rfl (by kernel_rfl) (fun _ _ _ h => h) (Or.inl ⟨by rfl, ?_⟩) hHeld ?_ ?_
  rotate_left
  · rintro w' ⟨s0, s1, s2, s3, s4⟩
    go_simp
    with_reducible rfl
  rotate_left
  · simp only [Act.put, List.setIfInBounds_toArray, List.set_cons_zero, List.set_cons_succ, i64_w, i32_w]
    rfl
  refine pure_ (i := 2) (N := some 7) (v := ?_) (a' := ?_) #[true, true, true, false, true, false, false, false, false, false] rfl rfl (by kernel_rfl) (fun _ _ _ h => h) (Or.inl ⟨by rfl, ?_⟩) ?_ ?_
  rotate_left
  · intro w'
    go_simp
    with_reducible rfl
  rotate_left
  · simp only [Act.put, List.setIfInBounds_toArray, List.set_cons_zero, List.set_cons_succ, i64_w, i32_w]
    rfl
  refine take_ (i := 3) (N := some 8) (v := ?_) (a' := ?_) #[true, true, true, true, true, false, false, false, false, false] rfl rfl (by kernel_rfl) (fun _ _ _ h => h) (Or.inl ⟨by rfl, ?_⟩) hHeld ?_ ?_
  rotate_left
  · rintro w' ⟨s0, s1, s2, s3, s4⟩
    go_simp
    with_reducible rfl
  rotate_left
  · simp only [Act.put, List.setIfInBounds_toArray, List.set_cons_zero, List.set_cons_succ, i64_w, i32_w]
    rfl
  refine take_ (i := 5) (N := some 10) (v := ?_) (a' := ?_) #[true, true, true, true, true, true, false, false, false, false] rfl rfl (by kernel_rfl) (fun _ _ _ h => h) (Or.inl ⟨by rfl, ?_⟩) hHeld ?_ ?_
  rotate_left
  · rintro w' ⟨s0, s1, s2, s3, s4⟩
    go_simp
    with_reducible rfl
  rotate_left
  · simp only [Act.put, List.setIfInBounds_toArray, List.set_cons_zero, List.set_cons_succ, i64_w, i32_w]
    rfl
  refine pure_ (i := 6) (N := some 11) (v := ?_) (a' := ?_) #[true, true, true, true, true, true, true, false, false, false] rfl rfl (by kernel_rfl) (fun _ _ _ h => h) (Or.inl ⟨by rfl, ?_⟩) ?_ ?_
  rotate_left
  · intro w'
    go_simp
    with_reducible rfl
  rotate_left
  · simp only [Act.put, List.setIfInBounds_toArray, List.set_cons_zero, List.set_cons_succ, i64_w, i32_w]
    rfl
  refine take_ (i := 7) (N := some 12) (v := ?_) (a' := ?_) #[true, true, true, true, true, true, true, true, false, false] rfl rfl (by kernel_rfl) (fun _ _ _ h => h) (Or.inl ⟨by rfl, ?_⟩) hHeld ?_ ?_
  rotate_left
  · rintro w' ⟨s0, s1, s2, s3, s4⟩
    go_simp
    with_reducible rfl
  rotate_left
  · simp only [Act.put, List.setIfInBounds_toArray, List.set_cons_zero, List.set_cons_succ, i64_w, i32_w]
    rfl
  refine take_ (i := 8) (N := some 13) (v := ?_) (a' := ?_) #[true, true, true, true, true, true, true, true, true, false] rfl rfl (by kernel_rfl) (fun _ _ _ h => h) (Or.inl ⟨by rfl, ?_⟩) hHeld ?_ ?_
  rotate_left
  · rintro w' ⟨s0, s1, s2, s3, s4⟩
    go_simp
    with_reducible rfl
  rotate_left
  · simp only [Act.put, List.setIfInBounds_toArray, List.set_cons_zero, List.set_cons_succ, i64_w, i32_w]
    rfl
  refine last_ (i := 9) (N := some 14) #[true, true, true, true, true, true, true, true, true, true] rfl rfl (by kernel_rfl) (by decide) (fun K hK => ?_)
  refine goes_ Try.func56 (by kernel_rfl) rfl #[.slice (some ⟨bi, 0, none⟩) n n, .slice (some ⟨bk, 0, none⟩) n n, .int .u8 (y : Nat)] (by rfl) rfl rfl (by simp only [List.map_toArray, List.map_cons, List.map_nil]; rfl) ?_
  refine Calls.mono (HS.out) ?_
  rintro e w2 ⟨rfl, hG, hR⟩
  refine ⟨_, rfl, ?_⟩
  refine hK.out _ _ ?_
  clear hK K
  refine norm_ (a' := ?_) ?_ ?_
  rotate_left
  · show Act.put _ (some 14) _ = _
    simp only [Act.put, List.setIfInBounds_toArray, List.set_cons_zero, List.set_cons_succ, i64_w, i32_w]
    rfl
  refine done_ (by kernel_rfl) ?_
  go_end0
  exact ⟨rfl, grown_drew hG, hR⟩
end Go.Proofs.Ytjolnjckgoilpaa.Gf
end

section
/-
  The closures of gf.Matrix.Inverse that touch nothing of a grid's form: both, an element, is it not 0.
-/
set_option linter.unusedVariables false
set_option linter.unusedSimpArgs false
namespace Go.Proofs.Ytjolnjckgoilpaa.Gf
open Go.RowKit Go.Proofs.YtjolnjckgoilpaaW.PrintWords Go.Proofs.YtjolnjckgoilpaaW.PrintLast Go.Proofs.Ytjolnjckgoilpaa.PRa

theorem both49 (w : World) (g : Nat) (caps : Array Value) (ba bo : Nat) (va vo : Value) (Q R : World → Prop) (he : ∀ (args : Array Value) (w : World), (callFunc g args).run Try.prog w = .ok (.enter g args) w)
    (ha : w.cell? ⟨ba, 0, none⟩ = some va) (h1 : Calls Try.prog g (#[va] ++ caps) w fun e w1 => e = .returned (.tuple #[]) ∧ Q w1) (h2 : ∀ w1, Q w1 → w1.cell? ⟨bo, 0, none⟩ = some vo ∧ Calls Try.prog g (#[vo] ++ caps) w1 fun e w2 => e = .returned (.tuple #[]) ∧ R w2) :
    Calls Try.prog 48 #[.func (.func g) #[] caps, .pointer (some ⟨ba, 0, none⟩), .pointer (some ⟨bo, 0, none⟩)] w fun e w2 => e = .returned (.tuple #[]) ∧ R w2 := by
  have H1 : Hid (Calls Try.prog g (#[va] ++ caps) w fun e w1 => e = .returned (.tuple #[]) ∧ Q w1) := h1
  have H2 : Hid (∀ w1, Q w1 → w1.cell? ⟨bo, 0, none⟩ = some vo ∧ Calls Try.prog g (#[vo] ++ caps) w1 fun e w2 => e = .returned (.tuple #[]) ∧ R w2) := h2
  clear h1 h2
  go_enter Try.func48, Try.ntmps48
  go_wp2_with (first | (refine Calls.mono H1.out ?_; rintro e w1 ⟨rfl, hq⟩; have h3 := (H2.out w1 hq).1; have H4 : Hid (Calls Try.prog g (#[vo] ++ caps) w1 fun e w2 => e = .returned (.tuple #[]) ∧ R w2) := (H2.out w1 hq).2) | (refine Calls.mono H4.out ?_; rintro e w2 ⟨rfl, hr⟩))
  go_end0
  exact ⟨rfl, hr⟩
theorem elem48 (W : World) (l : List (List Int)) (A : Option Addr) (c mb i j : Nat) (hC : KR.C W A l.length l) (hm : W.cell? ⟨mb, 0, none⟩ = some (.slice A l.length c)) (ok : okB l = true) (hi : i < l.length) (hj : j < (row l i).length) :
    Calls Try.prog 47 #[.int .i64 i, .int .i64 j, .pointer (some ⟨mb, 0, none⟩)] W fun e w' => e = .returned (.int .u8 ((byt l i j : Nat) : Int)) ∧ W = w' := by
  obtain ⟨ad, A1, c1, rfl, h1, hl1, hI⟩ := rows_at hC hi
  obtain ⟨a2, rfl, h2⟩ := byte_at hI hj
  rw [(okB_at ok i j).2] at h2
  have q1 : (0 : Int) ≤ (i : Int) := by omega
  have q2 : (i : Int) < (l.length : Int) := by omega
  have q3 : (0 : Int) ≤ (j : Int) := by omega
  have q4 : (j : Int) < ((row l i).length : Int) := by omega
  generalize byt l i j = x at *
  generalize row l i = r at *
  go_enter Try.func47, Try.ntmps47
  go_wp2
  go_ret
  exact ⟨rfl, rfl⟩
theorem nonz51 (W : World) (A : Option Addr) (r : List Int) (c kb k : Nat) (hC : KB.C W A r.length r) (hk : W.cell? ⟨kb, 0, none⟩ = some (.int .i64 (k : Nat))) (hkr : k < r.length) :
    Calls Try.prog 50 #[.slice A r.length c, .pointer (some ⟨kb, 0, none⟩)] W fun e w' => e = .returned (.bool (r.getD k 0 != 0)) ∧ W = w' := by
  obtain ⟨a2, rfl, h2⟩ := byte_at hC hkr
  have q3 : (0 : Int) ≤ (k : Int) := by omega
  have q4 : (k : Int) < (r.length : Int) := by omega
  generalize r.getD k 0 = x at *
  go_enter Try.func50, Try.ntmps50
  go_wp2
  go_ret
  exact ⟨rfl, rfl⟩
end Go.Proofs.Ytjolnjckgoilpaa.Gf
end

section
/-
  gf.Unit by the contract of made.
-/
set_option linter.unusedVariables false
set_option linter.unusedSimpArgs false
namespace Go.Proofs.Ytjolnjckgoilpaa.Gf
open Go.RowKit Go.Proofs.YtjolnjckgoilpaaW.PrintWords Go.Proofs.YtjolnjckgoilpaaW.PrintLast Go.Proofs.Ytjolnjckgoilpaa.PRa

def kron (i j : Nat) : Int := if i = j then 1 else 0
theorem unit40 (i j : Nat) (W : World) : Calls Try.prog 45 #[.int .i64 i, .int .i64 j] W fun e w' => e = .returned (.int .u8 (kron i j)) ∧ Below W.heap.size W w' := by
  by_cases e : i = j
  · subst e
    have hk : kron i i = 1 := by simp [kron]
    rw [hk]
    go_enter Try.func45, Try.ntmps45
    go_wp2
    go_ret
    exact ⟨rfl, Below.refl _ _⟩
  · have hk : kron i j = 0 := by simp [kron, e]
    rw [hk]
    have b : ((i : Int) == (j : Int)) = false := by simp; omega
    go_enter Try.func45, Try.ntmps45
    go_wp2
    go_ret
    exact ⟨rfl, Below.refl _ _⟩
theorem unit22_out (w : World) (n : Nat) (hn : n ≤ 255) (h1 : 1 ≤ n) :
    Calls Try.prog 29 #[.int .i64 n] w fun e w' => ∃ b, e = .returned (.tuple #[.slice (some ⟨w.heap.size, 0, none⟩) n n, .int .i64 0]) ∧ Outer w w' n n n b (fun j => rowCells n n (kron j)) := by
  have hm := made_calls w n n 45 #[] kron hn hn (Go.Proofs.enters_of Try.func45 (by kernel_rfl) rfl) (fun i j _ _ W _ => unit40 i j W)
  have b1 : decide ((n : Int) < 1) = false := decide_eq_false (by omega)
  have b2 : decide (255 < (n : Int)) = false := decide_eq_false (by omega)
  go_enter Try.func29, Try.ntmps29
  go_wp2_with (go_at_call 42; refine hm.mono ?_; rintro e w' ⟨b, rfl, hO⟩)
  go_ret2
  exact ⟨b, rfl, hO⟩
def unitF (a0 : Int) : Option (List (List Int) × Int) := if a0 < 1 then some ([], 1) else if a0 > 255 then some ([], 1) else some (matrix a0.toNat a0.toNat kron, 0)
theorem unit22 (a0 : Int) (r1 : List (List Int)) (r2 : Int) (w : World) (h : unitF a0 = some (r1, r2)) :
    Calls Try.prog 29 #[.int .i64 a0] w fun e w' => ∃ v0_ : Value, e = .returned (.tuple #[v0_, .int .i64 r2]) ∧ Kd.S (Kd.slice 5 (Kd.int .u8)) 25 w' w.heap.size (fun _ => True) v0_ r1 ∧ Below w.heap.size w w' := by
  unfold unitF at h
  by_cases h1 : a0 < 1
  · rw [if_pos h1] at h
    simp only [Option.some.injEq, Prod.mk.injEq] at h
    obtain ⟨rfl, rfl⟩ := h
    have b1 : decide (a0 < 1) = true := decide_eq_true h1
    go_enter Try.func29, Try.ntmps29
    go_wp2
    go_ret2
    exact ⟨_, rfl, Kd.S_nil _ _ _ _ _, by first | exact Below.refl _ _ | exact pw_below_drewN (Below.refl _ _) _⟩
  · rw [if_neg h1] at h
    have b1 : decide (a0 < 1) = false := decide_eq_false h1
    by_cases h2 : a0 > 255
    · rw [if_pos h2] at h
      simp only [Option.some.injEq, Prod.mk.injEq] at h
      obtain ⟨rfl, rfl⟩ := h
      have b2 : decide (255 < a0) = true := decide_eq_true h2
      clear h1 h2
      go_enter Try.func29, Try.ntmps29
      go_wp2
      go_ret2
      exact ⟨_, rfl, Kd.S_nil _ _ _ _ _, by first | exact Below.refl _ _ | exact pw_below_drewN (Below.refl _ _) _⟩
    · rw [if_neg h2] at h
      simp only [Option.some.injEq, Prod.mk.injEq] at h
      obtain ⟨rfl, rfl⟩ := h
      obtain ⟨n, rfl⟩ : ∃ n : Nat, a0 = n := ⟨a0.toNat, by omega⟩
      refine (unit22_out w n (by omega) (by omega)).mono ?_
      rintro e w' ⟨b, rfl, hO⟩
      exact ⟨_, rfl, hO.owned (by omega) (by omega), hO.below⟩
end Go.Proofs.Ytjolnjckgoilpaa.Gf
end

section
/-
  What gf.Matrix.Inverse holds while it runs: two grids in two boxes, apart from each other; what each of its closures does to both.
-/
set_option linter.unusedVariables false
set_option linter.unusedSimpArgs false
namespace Go.Proofs.Ytjolnjckgoilpaa.Gf
open Go.RowKit Go.Proofs.YtjolnjckgoilpaaW.PrintWords Go.Proofs.YtjolnjckgoilpaaW.PrintLast Go.Proofs.Ytjolnjckgoilpaa.PRa

/-! the plain side -/
abbrev Sq := (Nat → Nat → Nat) × (Nat → Nat → Nat)
def upd (f : Nat → Nat → Nat) (i : Nat) (r : Nat → Nat) : Nat → Nat → Nat := fun q => if q = i then r else f q
def norm (k y : Nat) (s : Sq) : Sq := (upd s.1 k (fun j => GfM.M (s.1 k j) y), upd s.2 k (fun j => GfM.M (s.2 k j) y))
def add1 (i k y : Nat) (s : Sq) : Sq := (upd s.1 i (mixf (s.1 i) (s.1 k) y), upd s.2 i (mixf (s.2 i) (s.2 k) y))
def elim1 (k i : Nat) (s : Sq) : Sq := if i ≠ k ∧ s.1 i k ≠ 0 then add1 i k (s.1 i k) s else s
def elimN (k : Nat) : Nat → Sq → Sq
  | 0, s => s
  | i + 1, s => elim1 k i (elimN k i s)
def pivot (n k : Nat) (f : Nat → Nat → Nat) : Int := firstIdx (n - k) fun i => f (k + i) k != 0
def swap2 (k p : Nat) (s : Sq) : Sq := (swp s.1 k p, swp s.2 k p)
def normed (k p : Nat) (s : Sq) : Sq := norm k (GfM.P ((swap2 k p s).1 k k) 254) (swap2 k p s)
def stepk (n k : Nat) (s : Sq) : Option Sq := if pivot n k s.1 < 0 then none else some (elimN k n (normed k (k + (pivot n k s.1).toNat) s))
def gj (n : Nat) : Nat → Sq → Option Sq
  | 0, s => some s
  | k + 1, s => (gj n k s).bind (stepk n k)

/-! the world's side -/
structure St (w wr : World) (B5 B6 ga go n : Nat) (ba bo : Nat → Nat) (s : Sq) : Prop where
  below : Below w.heap.size w wr
  x5 : wr.heap[B5]? = some (.cells #[.slice (some ⟨ga, 0, none⟩) n n] 46 (0, 0))
  x6 : wr.heap[B6]? = some (.cells #[.slice (some ⟨go, 0, none⟩) n n] 46 (0, 0))
  a : Grid wr ga ba n s.1
  o : Grid wr go bo n s.2
  ne : ga ≠ go
  sep : ∀ i j, i < n → j < n → ba i ≠ bo j
  la : w.heap.size ≤ ga ∧ ∀ j, j < n → w.heap.size ≤ ba j
  lo : w.heap.size ≤ go ∧ ∀ j, j < n → w.heap.size ≤ bo j
  va : ∀ i j, i < n → j < n → s.1 i j < 256
  vo : ∀ i j, i < n → j < n → s.2 i j < 256
section
variable {w wr w2 : World} {B5 B6 ga go n : Nat} {ba bo : Nat → Nat} {s : Sq}
theorem keep_heap {x g : Nat} {o : Obj} (hg : wr.grownBy w2 (some x)) (h : wr.heap[g]? = some o) (hne : g ≠ x) : w2.heap[g]? = some o := (hg.block g (heap_lt h) (by intro e; injection e with e; exact hne e)).trans h
theorem below_grown {x : Nat} (h : Below w.heap.size w wr) (hg : wr.grownBy w2 (some x)) (hx : w.heap.size ≤ x) : Below w.heap.size w w2 :=
  h.grown hg h.size (fun k e => by injection e with e; omega)
theorem St.cell5 (h : St w wr B5 B6 ga go n ba bo s) : wr.cell? ⟨B5, 0, none⟩ = some (.slice (some ⟨ga, 0, none⟩) n n) := by
  rw [cell_of_row wr B5 0 _ 46 (0, 0) h.x5]; rfl
theorem St.cell6 (h : St w wr B5 B6 ga go n ba bo s) : wr.cell? ⟨B6, 0, none⟩ = some (.slice (some ⟨go, 0, none⟩) n n) := by
  rw [cell_of_row wr B6 0 _ 46 (0, 0) h.x6]; rfl
theorem St.step (h : St w wr B5 B6 ga go n ba bo s) (hb : Below wr.heap.size wr w2) : St w w2 B5 B6 ga go n ba bo s :=
  ⟨h.below.trans (hb.mono h.below.size), (hb.block _ (heap_lt h.x5)).trans h.x5, (hb.block _ (heap_lt h.x6)).trans h.x6, h.a.below hb, h.o.below hb, h.ne, h.sep, h.la, h.lo, h.va, h.vo⟩
theorem St.rowA {i : Nat} {r : Nat → Nat} (h : St w wr B5 B6 ga go n ba bo s) (hi : i < n) (hg : wr.grownBy w2 (some (ba i))) (hr : RowAt w2 (ba i) n r) (hv : ∀ j, j < n → r j < 256) : St w w2 B5 B6 ga go n ba bo (upd s.1 i r, s.2) := by
  refine ⟨below_grown h.below hg (h.la.2 i hi), keep_heap hg h.x5 (type_ne h.x5 (h.a.row i hi) (by decide)), keep_heap hg h.x6 (type_ne h.x6 (h.a.row i hi) (by decide)), h.a.rowset hi hg hr, h.o.kept hg (type_ne h.o.top (h.a.row i hi) (by decide)) (fun j hj => (h.sep i j hi hj).symm), h.ne, h.sep, h.la, h.lo, fun p q hp hq => ?_, h.vo⟩
  show upd s.1 i r p q < 256
  unfold upd
  split
  · exact hv q hq
  · exact h.va p q hp hq
theorem St.rowO {i : Nat} {r : Nat → Nat} (h : St w wr B5 B6 ga go n ba bo s) (hi : i < n) (hg : wr.grownBy w2 (some (bo i))) (hr : RowAt w2 (bo i) n r) (hv : ∀ j, j < n → r j < 256) : St w w2 B5 B6 ga go n ba bo (s.1, upd s.2 i r) := by
  refine ⟨below_grown h.below hg (h.lo.2 i hi), keep_heap hg h.x5 (type_ne h.x5 (h.o.row i hi) (by decide)), keep_heap hg h.x6 (type_ne h.x6 (h.o.row i hi) (by decide)), h.a.kept hg (type_ne h.a.top (h.o.row i hi) (by decide)) (fun j hj => h.sep j i hj hi), h.o.rowset hi hg hr, h.ne, h.sep, h.la, h.lo, h.va, fun p q hp hq => ?_⟩
  show upd s.2 i r p q < 256
  unfold upd
  split
  · exact hv q hq
  · exact h.vo p q hp hq
theorem swp_sw {α : Type} (f : Nat → α) (i j q : Nat) : swp f i j q = f (sw i j q) := by
  unfold swp sw
  split
  · rfl
  · split <;> rfl
theorem St.swapA {i j : Nat} (h : St w wr B5 B6 ga go n ba bo s) (hi : i < n) (hj : j < n) (hg : wr.grownBy w2 (some ga)) (hr : Grid w2 ga (swp ba i j) n (swp s.1 i j)) : St w w2 B5 B6 ga go n (swp ba i j) bo (swp s.1 i j, s.2) := by
  refine ⟨below_grown h.below hg h.la.1, keep_heap hg h.x5 (type_ne h.x5 h.a.top (by decide)), keep_heap hg h.x6 (type_ne h.x6 h.a.top (by decide)), hr, h.o.kept hg h.ne.symm (fun j hj => type_ne (h.o.row j hj) h.a.top (by decide)), h.ne, fun p q hp hq => ?_, ⟨h.la.1, fun q hq => ?_⟩, h.lo, fun p q hp hq => ?_, h.vo⟩
  · rw [swp_sw]; exact h.sep _ _ (sw_lt hi hj hp) hq
  · rw [swp_sw]; exact h.la.2 _ (sw_lt hi hj hq)
  · show swp s.1 i j p q < 256
    rw [swp_sw]; exact h.va _ _ (sw_lt hi hj hp) hq
theorem St.swapO {i j : Nat} (h : St w wr B5 B6 ga go n ba bo s) (hi : i < n) (hj : j < n) (hg : wr.grownBy w2 (some go)) (hr : Grid w2 go (swp bo i j) n (swp s.2 i j)) : St w w2 B5 B6 ga go n ba (swp bo i j) (s.1, swp s.2 i j) := by
  refine ⟨below_grown h.below hg h.lo.1, keep_heap hg h.x5 (type_ne h.x5 h.o.top (by decide)), keep_heap hg h.x6 (type_ne h.x6 h.o.top (by decide)), h.a.kept hg h.ne (fun j hj => type_ne (h.a.row j hj) h.o.top (by decide)), hr, h.ne, fun p q hp hq => ?_, h.la, ⟨h.lo.1, fun q hq => ?_⟩, h.va, fun p q hp hq => ?_⟩
  · rw [swp_sw]; exact h.sep _ _ hp (sw_lt hi hj hq)
  · rw [swp_sw]; exact h.lo.2 _ (sw_lt hi hj hq)
  · show swp s.2 i j p q < 256
    rw [swp_sw]; exact h.vo _ _ (sw_lt hi hj hp) hq
theorem box_cell {x t : Nat} {v : Value} (h : wr.heap[x]? = some (.cells #[v] t (0, 0))) : wr.cell? ⟨x, 0, none⟩ = some v := by
  rw [cell_of_row wr x 0 _ t (0, 0) h]; rfl
theorem both_swap {kb pb k p : Nat} (h : St w wr B5 B6 ga go n ba bo s) (hk : wr.heap[kb]? = some (.cells #[.int .i64 (k : Nat)] 3 (0, 0))) (hp : wr.heap[pb]? = some (.cells #[.int .i64 (p : Nat)] 3 (0, 0))) (hkp : k + p < n) (hn : n ≤ 255) :
    Calls Try.prog 48 #[.func (.func 51) #[] #[.pointer (some ⟨kb, 0, none⟩), .pointer (some ⟨pb, 0, none⟩)], .pointer (some ⟨B5, 0, none⟩), .pointer (some ⟨B6, 0, none⟩)] wr fun e w2 => e = .returned (.tuple #[]) ∧ St w w2 B5 B6 ga go n (swp ba k (k + p)) (swp bo k (k + p)) (swap2 k (k + p) s) ∧ w2.heap[kb]? = some (.cells #[.int .i64 (k : Nat)] 3 (0, 0)) := by
  refine both49 wr 51 #[.pointer (some ⟨kb, 0, none⟩), .pointer (some ⟨pb, 0, none⟩)] B5 B6 (.slice (some ⟨ga, 0, none⟩) n n) (.slice (some ⟨go, 0, none⟩) n n)
    (fun w1 => St w w1 B5 B6 ga go n (swp ba k (k + p)) bo (swp s.1 k (k + p), s.2) ∧ w1.heap[kb]? = some (.cells #[.int .i64 (k : Nat)] 3 (0, 0)) ∧ w1.heap[pb]? = some (.cells #[.int .i64 (p : Nat)] 3 (0, 0)))
    (fun w2 => St w w2 B5 B6 ga go n (swp ba k (k + p)) (swp bo k (k + p)) (swap2 k (k + p) s) ∧ w2.heap[kb]? = some (.cells #[.int .i64 (k : Nat)] 3 (0, 0)))
    (Go.Proofs.enters_of Try.func51 (by kernel_rfl) rfl) h.cell5 ?_ ?_
  · refine (swap52 wr ga n k p kb pb ba s.1 h.a (box_cell hk) (box_cell hp) hkp (by omega)).mono ?_
    rintro e w1 ⟨rfl, hg, hG⟩
    exact ⟨rfl, h.swapA (by omega) hkp hg hG, keep_heap hg hk (type_ne hk h.a.top (by decide)), keep_heap hg hp (type_ne hp h.a.top (by decide))⟩
  · rintro w1 ⟨h1, hk1, hp1⟩
    refine ⟨h1.cell6, (swap52 w1 go n k p kb pb bo s.2 h1.o (box_cell hk1) (box_cell hp1) hkp (by omega)).mono ?_⟩
    rintro e w2 ⟨rfl, hg, hG⟩
    exact ⟨rfl, h1.swapO (by omega) hkp hg hG, keep_heap hg hk1 (type_ne hk1 h1.o.top (by decide))⟩
theorem both_scale {kb yb k y : Nat} (h : St w wr B5 B6 ga go n ba bo s) (hk : wr.heap[kb]? = some (.cells #[.int .i64 (k : Nat)] 3 (0, 0))) (hy : wr.heap[yb]? = some (.cells #[.int .u8 (y : Nat)] 5 (0, 0))) (hya : ∀ j, j < n → yb ≠ ba j) (hkn : k < n) (hy256 : y < 256) (hn : n ≤ 255) :
    Calls Try.prog 48 #[.func (.func 53) #[] #[.pointer (some ⟨kb, 0, none⟩), .pointer (some ⟨yb, 0, none⟩)], .pointer (some ⟨B5, 0, none⟩), .pointer (some ⟨B6, 0, none⟩)] wr fun e w2 => e = .returned (.tuple #[]) ∧ St w w2 B5 B6 ga go n ba bo (norm k y s) ∧ w2.heap[kb]? = some (.cells #[.int .i64 (k : Nat)] 3 (0, 0)) := by
  refine both49 wr 53 #[.pointer (some ⟨kb, 0, none⟩), .pointer (some ⟨yb, 0, none⟩)] B5 B6 (.slice (some ⟨ga, 0, none⟩) n n) (.slice (some ⟨go, 0, none⟩) n n)
    (fun w1 => St w w1 B5 B6 ga go n ba bo (upd s.1 k (fun j => GfM.M (s.1 k j) y), s.2) ∧ w1.heap[kb]? = some (.cells #[.int .i64 (k : Nat)] 3 (0, 0)) ∧ w1.heap[yb]? = some (.cells #[.int .u8 (y : Nat)] 5 (0, 0)))
    (fun w2 => St w w2 B5 B6 ga go n ba bo (norm k y s) ∧ w2.heap[kb]? = some (.cells #[.int .i64 (k : Nat)] 3 (0, 0)))
    (Go.Proofs.enters_of Try.func53 (by kernel_rfl) rfl) h.cell5 ?_ ?_
  · refine (scale53 wr ga n k kb yb y ba s.1 h.a (box_cell hk) (box_cell hy) hkn (by omega) (fun j hj => h.va k j hkn hj) hy256).mono ?_
    rintro e w1 ⟨rfl, hg, hR⟩
    exact ⟨rfl, h.rowA hkn hg hR (fun j hj => GfM.M_lt _ _ (h.va k j hkn hj)), keep_heap hg hk (type_ne hk (h.a.row k hkn) (by decide)), keep_heap hg hy (hya k hkn)⟩
  · rintro w1 ⟨h1, hk1, hy1⟩
    refine ⟨h1.cell6, (scale53 w1 go n k kb yb y bo s.2 h1.o (box_cell hk1) (box_cell hy1) hkn (by omega) (fun j hj => h1.vo k j hkn hj) hy256).mono ?_⟩
    rintro e w2 ⟨rfl, hg, hR⟩
    exact ⟨rfl, h1.rowO hkn hg hR (fun j hj => GfM.M_lt _ _ (h1.vo k j hkn hj)), keep_heap hg hk1 (type_ne hk1 (h1.o.row k hkn) (by decide))⟩
theorem mixf_lt {f g : Nat → Nat} {y j : Nat} (h1 : f j < 256) (h2 : g j < 256) : mixf f g y j < 256 := GfM.xor_lt _ _ h1 (GfM.M_lt _ _ h2)
theorem both_plus {ib kb yb i k y : Nat} (h : St w wr B5 B6 ga go n ba bo s) (hi : wr.heap[ib]? = some (.cells #[.int .i64 (i : Nat)] 3 (0, 0))) (hk : wr.heap[kb]? = some (.cells #[.int .i64 (k : Nat)] 3 (0, 0))) (hy : wr.heap[yb]? = some (.cells #[.int .u8 (y : Nat)] 5 (0, 0))) (hya : ∀ j, j < n → yb ≠ ba j) (hin : i < n) (hkn : k < n) (hne : i ≠ k) (hy256 : y < 256) (hn : n ≤ 255) :
    Calls Try.prog 48 #[.func (.func 55) #[] #[.pointer (some ⟨ib, 0, none⟩), .pointer (some ⟨kb, 0, none⟩), .pointer (some ⟨yb, 0, none⟩)], .pointer (some ⟨B5, 0, none⟩), .pointer (some ⟨B6, 0, none⟩)] wr fun e w2 => e = .returned (.tuple #[]) ∧ St w w2 B5 B6 ga go n ba bo (add1 i k y s) ∧ w2.heap[kb]? = some (.cells #[.int .i64 (k : Nat)] 3 (0, 0)) := by
  refine both49 wr 55 #[.pointer (some ⟨ib, 0, none⟩), .pointer (some ⟨kb, 0, none⟩), .pointer (some ⟨yb, 0, none⟩)] B5 B6 (.slice (some ⟨ga, 0, none⟩) n n) (.slice (some ⟨go, 0, none⟩) n n)
    (fun w1 => St w w1 B5 B6 ga go n ba bo (upd s.1 i (mixf (s.1 i) (s.1 k) y), s.2) ∧ w1.heap[ib]? = some (.cells #[.int .i64 (i : Nat)] 3 (0, 0)) ∧ w1.heap[kb]? = some (.cells #[.int .i64 (k : Nat)] 3 (0, 0)) ∧ w1.heap[yb]? = some (.cells #[.int .u8 (y : Nat)] 5 (0, 0)))
    (fun w2 => St w w2 B5 B6 ga go n ba bo (add1 i k y s) ∧ w2.heap[kb]? = some (.cells #[.int .i64 (k : Nat)] 3 (0, 0)))
    (Go.Proofs.enters_of Try.func55 (by kernel_rfl) rfl) h.cell5 ?_ ?_
  · refine (plus55 wr ga n i k ib kb yb y ba s.1 h.a (box_cell hi) (box_cell hk) (box_cell hy) hin hkn hne (by omega) (fun j hj => h.va i j hin hj) (fun j hj => h.va k j hkn hj) hy256).mono ?_
    rintro e w1 ⟨rfl, hg, hR⟩
    exact ⟨rfl, h.rowA hin hg hR (fun j hj => mixf_lt (h.va i j hin hj) (h.va k j hkn hj)), keep_heap hg hi (type_ne hi (h.a.row i hin) (by decide)), keep_heap hg hk (type_ne hk (h.a.row i hin) (by decide)), keep_heap hg hy (hya i hin)⟩
  · rintro w1 ⟨h1, hi1, hk1, hy1⟩
    refine ⟨h1.cell6, (plus55 w1 go n i k ib kb yb y bo s.2 h1.o (box_cell hi1) (box_cell hk1) (box_cell hy1) hin hkn hne (by omega) (fun j hj => h1.vo i j hin hj) (fun j hj => h1.vo k j hkn hj) hy256).mono ?_⟩
    rintro e w2 ⟨rfl, hg, hR⟩
    exact ⟨rfl, h1.rowO hin hg hR (fun j hj => mixf_lt (h1.vo i j hin hj) (h1.vo k j hkn hj)), keep_heap hg hk1 (type_ne hk1 (h1.o.row i hin) (by decide))⟩
end
/-! how it begins -/
def kronN (i j : Nat) : Nat := if i = j then 1 else 0
theorem rowCells_byC (n : Nat) (f : Nat → Nat) : rowCells n n (fun q => ((f q : Nat) : Int)) = byC n f := by
  unfold rowCells byC
  congr 1
  apply List.map_congr_left
  intro j hj
  rw [if_pos (by simpa using hj)]
theorem Outer.grid {w wr : World} {n : Nat} {b : Nat → Nat} {f : Nat → Nat → Nat} (h : Outer w wr n n n b (fun j => rowCells n n (fun q => ((f j q : Nat) : Int)))) : Grid wr w.heap.size b n f :=
  ⟨h.top, fun j hj => by have := (h.row j hj).2; rw [rowCells_byC] at this; exact this, fun i j hi hj e => by
    rcases Nat.lt_trichotomy i j with h1 | h1 | h1
    · have := h.ord i j h1 hj; omega
    · exact h1
    · have := h.ord j i h1 hi; omega⟩
theorem St.begin {w w2 w4 w5 : World} {n : Nat} {ba bo : Nat → Nat} {f : Nat → Nat → Nat} (hB : Below w.heap.size w w2) (h1 : Outer w2 w4 n n n ba (fun j => rowCells n n (fun q => ((f j q : Nat) : Int))))
    (h2 : Outer (w4.alloc (.cells #[.slice (some ⟨w2.heap.size, 0, none⟩) n n] 46)) w5 n n n bo (fun j => rowCells n n (kron j))) (hf : ∀ i j, f i j < 256) :
    St w (w5.alloc (.cells #[.slice (some ⟨w4.heap.size + 1, 0, none⟩) n n] 46)) w4.heap.size w5.heap.size w2.heap.size (w4.heap.size + 1) n ba bo (f, kronN) := by
  have hk : (fun j => rowCells n n (kron j)) = (fun j => rowCells n n (fun q => ((kronN j q : Nat) : Int))) := by
    funext j
    congr 1
    funext q
    simp [kron, kronN]
    split <;> rfl
  rw [hk] at h2
  have s4 : (w4.alloc (.cells #[.slice (some ⟨w2.heap.size, 0, none⟩) n n] 46)).heap.size = w4.heap.size + 1 := by simp
  have g1 := h1.grid
  have g2 := h2.grid
  rw [s4] at g2
  have l1 := h1.lt
  have l2 := h2.lt
  rw [s4] at l2
  have b1 : Below w4.heap.size w4 (w4.alloc (.cells #[.slice (some ⟨w2.heap.size, 0, none⟩) n n] 46)) := below1 _ _
  have b2 := h2.below
  rw [s4] at b2
  have b3 : Below w5.heap.size w5 (w5.alloc (.cells #[.slice (some ⟨w4.heap.size + 1, 0, none⟩) n n] 46)) := below1 _ _
  have b13 : Below w4.heap.size w4 w5 := b1.trans (b2.mono (by omega))
  have hs := hB.size
  refine ⟨(hB.trans ((h1.below.mono hs).trans ((b13.trans (b3.mono (by omega))).mono (by omega)))), ?_, heap_alloc_new w5 _, (g1.below b13).below b3, g2.below b3, by omega, fun i j hi hj => ?_, ⟨hs, fun j hj => ?_⟩, ⟨by omega, fun j hj => ?_⟩, fun i j _ _ => hf i j, fun i j _ _ => by show kronN i j < 256; unfold kronN; split <;> omega⟩
  · have e := heap_alloc_new w4 (.cells #[.slice (some ⟨w2.heap.size, 0, none⟩) n n] 46)
    exact blkalloc ((b2.block _ (by omega)).trans e) _
  · have := heap_lt (h1.row i hi).2
    have h3 := (h2.row j hj).1
    rw [s4] at h3
    omega
  · have := (h1.row j hj).1
    omega
  · have h3 := (h2.row j hj).1
    rw [s4] at h3
    omega
/-- The rows from k on, read. -/
theorem Grid.rest {w : World} {g n : Nat} {b : Nat → Nat} {f : Nat → Nat → Nat} (h : Grid w g b n f) (hn : n ≤ 255) (k : Nat) (hk : k ≤ n) : KR.C w (some ⟨g, k, none⟩) (n - k) ((List.range (n - k)).map fun i => (List.range n).map fun j => ((f (k + i) j : Nat) : Int)) := by
  refine ⟨by simp, by omega, fun _ => ⟨_, rfl, fun j r hj => ?_⟩⟩
  have hjl : j < n - k := by have := (List.getElem?_eq_some_iff.1 hj).1; simpa using this
  obtain rfl : ((List.range n).map fun q => ((f (k + j) q : Nat) : Int)) = r := by simp [hjl] at hj; exact hj
  have hrow := h.row (k + j) (by omega)
  refine ⟨[.slice (some ⟨b (k + j), 0, none⟩) n n], rfl, ⟨some ⟨b (k + j), 0, none⟩, n, by simp, by simp, ?_⟩, fun i u hu => ?_⟩
  · refine Kd.C_of_reads (d := (0 : Int)) (h1 := fun _ => rfl) ⟨rfl, by simp; omega, fun _ => ⟨_, rfl, fun q hq => ?_⟩⟩
    simp at hq
    rw [add_plain, hrow.cell hq]
    simp [hq]
  · match i, hu with
    | 0, hu =>
      obtain rfl := Option.some.inj hu
      rw [show (Kd.slice 5 (Kd.int .u8)).sz = 1 from rfl, show j * 1 + 0 = j by omega]
      have : (⟨g, k, none⟩ : Addr).add j = ⟨g, k + j, none⟩ := by unfold Addr.add; split <;> simp_all
      rw [this]
      exact h.cell (by omega)
/-- The pivot is looked for. -/
theorem pivot50 {w W : World} {B5 B6 ga go n k kb : Nat} {ba bo : Nat → Nat} {s : Sq} (h : St w W B5 B6 ga go n ba bo s) (hn : n ≤ 255) (hkn : k < n) (hk : W.heap[kb]? = some (.cells #[.int .i64 (k : Nat)] 3 (0, 0))) :
    Calls Try.prog 49 #[.slice (some ⟨ga, k, none⟩) ((n - k : Nat)) ((n - k : Nat)), .func (.func 50) #[] #[.pointer (some ⟨kb, 0, none⟩)]] W fun e w' => e = .returned (.int .i64 (pivot n k s.1)) ∧ Below W.heap.size W w' := by
  have hR := h.a.rest hn k (by omega)
  have hl : ((List.range (n - k)).map fun i => (List.range n).map fun j => ((s.1 (k + i) j : Nat) : Int)).length = n - k := by simp
  have hrow : ∀ i, i < n - k → row ((List.range (n - k)).map fun i => (List.range n).map fun j => ((s.1 (k + i) j : Nat) : Int)) i = (List.range n).map fun j => ((s.1 (k + i) j : Nat) : Int) := fun i hi => by simp [row, List.getD, hi]
  have := index50 W (some ⟨ga, k, none⟩) (n - k) ((List.range (n - k)).map fun i => (List.range n).map fun j => ((s.1 (k + i) j : Nat) : Int)) 50 #[.pointer (some ⟨kb, 0, none⟩)] (fun i => s.1 (k + i) k != 0) (by rw [hl]; exact hR) (Go.Proofs.enters_of Try.func50 (by kernel_rfl) rfl) (by
    intro i hi A' c' W2 hW2 hK hle
    rw [hl] at hi
    rw [hrow i hi] at hK hle ⊢
    refine (nonz51 W2 A' _ c' kb k hK (pw_cell_below hW2 (box_cell hk)) (by simp; omega)).mono ?_
    rintro e w' ⟨rfl, rfl⟩
    refine ⟨?_, Below.refl _ _⟩
    have e1 : ((List.range n).map fun j => ((s.1 (k + i) j : Nat) : Int)).getD k 0 = ((s.1 (k + i) k : Nat) : Int) := by simp [List.getD, hkn]
    rw [e1]
    by_cases e : s.1 (k + i) k = 0
    · simp [e]
    · have : ((s.1 (k + i) k : Nat) : Int) ≠ 0 := by omega
      rw [bne_iff_ne.2 this, bne_iff_ne.2 e])
  rw [hl] at this
  exact this
theorem firstIdx_cases (n : Nat) (p : Nat → Bool) : (firstIdx n p < 0 ∧ ∀ q, q < n → p q = false) ∨ ∃ k, k < n ∧ p k = true ∧ (∀ q, q < k → p q = false) ∧ firstIdx n p = k := by
  by_cases h : ∃ k, k < n ∧ p k = true
  · right
    have h2 : ∃ k, k < n ∧ p k = true ∧ ∀ q, q < k → p q = false := by
      obtain ⟨k, hk, hp⟩ := h
      induction k using Nat.strongRecOn with
      | ind k ih =>
        by_cases e : ∃ q, q < k ∧ p q = true
        · obtain ⟨q, hq, hpq⟩ := e
          exact ih q hq (by omega) hpq
        · exact ⟨k, hk, hp, fun q hq => by
            cases hc : p q
            · rfl
            · exact absurd ⟨q, hq, hc⟩ e⟩
    obtain ⟨k, hk, hp, hno⟩ := h2
    exact ⟨k, hk, hp, hno, firstIdx_at hk hp hno⟩
  · left
    have hno : ∀ q, q < n → p q = false := fun q hq => by
      cases hc : p q
      · rfl
      · exact absurd ⟨q, hq, hc⟩ h
    exact ⟨by rw [firstIdx_none hno]; omega, hno⟩
theorem pivot_cases (n k : Nat) (f : Nat → Nat → Nat) : (pivot n k f < 0) ∨ ∃ p, k + p < n ∧ pivot n k f = (p : Nat) ∧ f (k + p) k ≠ 0 := by
  rcases firstIdx_cases (n - k) (fun i => f (k + i) k != 0) with ⟨h, _⟩ | ⟨p, hp, h1, _, h2⟩
  · exact .inl h
  · exact .inr ⟨p, by omega, h2, by simpa using h1⟩
theorem gj_none {n k : Nat} {s0 s : Sq} (h : gj n k s0 = some s) (hp : pivot n k s.1 < 0) : ∀ m, k < m → gj n m s0 = none := by
  intro m hm
  induction m with
  | zero => omega
  | succ m ih =>
    by_cases e : m = k
    · subst e
      simp [gj, h, stepk, hp]
    · simp [gj, ih (by omega)]
theorem gj_step {n k p : Nat} {s0 s : Sq} (h : gj n k s0 = some s) (hp : pivot n k s.1 = (p : Nat)) : gj n (k + 1) s0 = some (elimN k n (normed k (k + p) s)) := by
  simp only [gj, h, Option.bind_some, stepk]
  rw [hp, if_neg (by omega), Int.toNat_natCast]
theorem M_one_left (a : Nat) (h : a < 256) : GfM.M 1 a = a := by rw [GfM.M_comm 1 a (by omega) h, GfM.M_one a h]
end Go.Proofs.Ytjolnjckgoilpaa.Gf
end
