/-
  Square matrices that the call owns, written in place: two rows exchanged, a row scaled, a row added to another one: the closures of gf.Matrix.Inverse.
-/
import Derived.Test.YtgoacbbaiigpeaaGfRows
import Derived.BigRegion
set_option linter.unusedVariables false
set_option linter.unusedSimpArgs false
namespace Go.Proofs.Ytgoacbbaiigpeaa.Gf
open Go.RowKit Go.Proofs.YtgoacbbaiigpeaaW.PrintWords Go.Proofs.YtgoacbbaiigpeaaW.PrintLast Go.Proofs.Ytgoacbbaiigpeaa.PGa

structure Grid (w : World) (g : Nat) (b : Nat → Nat) (n : Nat) (f : Nat → Nat → Nat) : Prop where
  top : w.heap[g]? = some (.cells (topCells n n n b) 53 (0, 0))
  row : ∀ j, j < n → RowAt w (b j) n (f j)
  inj : ∀ i j, i < n → j < n → b i = b j → i = j
theorem Grid.cell {w : World} {g n k : Nat} {b : Nat → Nat} {f : Nat → Nat → Nat} (h : Grid w g b n f) (hk : k < n) : w.cell? ⟨g, k, none⟩ = some (.slice (some ⟨b k, 0, none⟩) n n) := by
  rw [cell_of_row w g k _ 53 (0, 0) h.top, topCells_at hk hk]
theorem Grid.frozen {w : World} {g n : Nat} {b : Nat → Nat} {f : Nat → Nat → Nat} (h : Grid w g b n f) (k : Nat) : w.frozen? ⟨g, k, none⟩ = false := by simp [World.frozen?, h.top]
theorem type_ne {w : World} {g g' : Nat} {t t' : TypeId} {cs cs' : Array Value} (h : w.heap[g]? = some (.cells cs t (0, 0))) (h' : w.heap[g']? = some (.cells cs' t' (0, 0))) (hne : t ≠ t') : g ≠ g' := by
  rintro rfl
  rw [h] at h'
  injection h' with h'
  injection h' with _ ht
  exact hne ht
theorem Grid.kept {w w' : World} {g n : Nat} {b : Nat → Nat} {f : Nat → Nat → Nat} {x : Nat} (h : Grid w g b n f) (hg : w.grownBy w' (some x)) (h1 : g ≠ x) (h2 : ∀ j, j < n → b j ≠ x) : Grid w' g b n f :=
  ⟨(hg.block g (heap_lt h.top) (by intro e; injection e with e; exact h1 e)).trans h.top, fun j hj => (h.row j hj).kept hg (by intro e; injection e with e; exact h2 j hj e), h.inj⟩
theorem Grid.below {w w' : World} {g n : Nat} {b : Nat → Nat} {f : Nat → Nat → Nat} (h : Grid w g b n f) (hb : Below w.heap.size w w') : Grid w' g b n f :=
  ⟨(hb.block g (heap_lt h.top)).trans h.top, fun j hj => (hb.block _ (heap_lt (h.row j hj))).trans (h.row j hj), h.inj⟩
theorem Grid.rowset {w w' : World} {g n k : Nat} {b : Nat → Nat} {f : Nat → Nat → Nat} {r : Nat → Nat} (h : Grid w g b n f) (hk : k < n) (hg : w.grownBy w' (some (b k))) (hr : RowAt w' (b k) n r) : Grid w' g b n (fun q => if q = k then r else f q) := by
  refine ⟨(hg.block g (heap_lt h.top) (by intro e; injection e with e; exact type_ne h.top (h.row k hk) (by decide) e)).trans h.top, fun j hj => ?_, h.inj⟩
  by_cases e : j = k
  · subst e; simp only [if_true]; exact hr
  · simp only [if_neg e]
    exact (h.row j hj).kept hg (by intro e2; injection e2 with e2; exact e (h.inj j k hj hk e2))
theorem Grid.drew {w : World} {g n : Nat} {b : Nat → Nat} {f : Nat → Nat → Nat} (h : Grid w g b n f) : Grid w.drew g b n f := ⟨h.top, h.row, h.inj⟩
theorem Grid.drewN {w : World} {g n : Nat} {b : Nat → Nat} {f : Nat → Nat → Nat} (h : Grid w g b n f) (m : Nat) : Grid (w.drewN m) g b n f := ⟨h.top, h.row, h.inj⟩
theorem Grid.same {w : World} {g n : Nat} {b : Nat → Nat} {f f' : Nat → Nat → Nat} (h : Grid w g b n f) (e : ∀ i j, i < n → j < n → f i j = f' i j) : Grid w g b n f' := ⟨h.top, fun j hj => (h.row j hj).same (fun c hc => e j c hj hc), h.inj⟩
/-- Exchanged. -/
def swp {α : Type} (f : Nat → α) (i j : Nat) : Nat → α := fun q => if q = i then f j else if q = j then f i else f q
def sw (i j q : Nat) : Nat := if q = i then j else if q = j then i else q
theorem sw_sw (i j q : Nat) : sw i j (sw i j q) = q := by
  unfold sw
  by_cases e1 : q = i
  · rw [if_pos e1]
    by_cases e2 : j = i
    · rw [if_pos e2]; omega
    · rw [if_neg e2, if_pos rfl]; omega
  · rw [if_neg e1]
    by_cases e2 : q = j
    · rw [if_pos e2, if_pos rfl]; omega
    · rw [if_neg e2, if_neg e1, if_neg e2]
theorem sw_lt {i j q n : Nat} (hi : i < n) (hj : j < n) (hq : q < n) : sw i j q < n := by
  unfold sw
  split
  · exact hj
  · split
    · exact hi
    · exact hq
theorem topCells_put {n : Nat} {b : Nat → Nat} (i a : Nat) : (topCells n n n b).setIfInBounds i (.slice (some ⟨a, 0, none⟩) n n) = topCells n n n (fun q => if q = i then a else b q) := by
  apply Array.ext
  · simp [topCells]
  · intro k h1 h2
    simp [topCells] at h1
    rw [Array.getElem_setIfInBounds]
    simp [topCells]
    by_cases e : i = k
    · subst e; simp [h1]
    · simp [e, Ne.symm e, h1]
    simpa [topCells] using h1
theorem Grid.swap {w : World} {g n i j : Nat} {b : Nat → Nat} {f : Nat → Nat → Nat} (h : Grid w g b n f) (hi : i < n) (hj : j < n) :
    Grid ((w.setCell ⟨g, i, none⟩ (.slice (some ⟨b j, 0, none⟩) n n)).setCell ⟨g, j, none⟩ (.slice (some ⟨b i, 0, none⟩) n n)) g (swp b i j) n (swp f i j) := by
  have hne : ∀ q, q < n → b q ≠ g := fun q hq => (type_ne h.top (h.row q hq) (by decide)).symm
  refine ⟨?_, fun q hq => ?_, fun p q hp hq e => ?_⟩
  · have h1 := blkset (blkset h.top i (.slice (some ⟨b j, 0, none⟩) n n)) j (.slice (some ⟨b i, 0, none⟩) n n)
    rw [topCells_put, topCells_put] at h1
    rw [h1]
    congr 2
    simp only [topCells]
    congr 1
    apply List.map_congr_left
    intro q hq
    have : q < n := by simpa using hq
    simp only [if_pos this, swp]
    by_cases e1 : q = j
    · subst e1
      by_cases e2 : q = i
      · subst e2; simp
      · simp [e2]
    · by_cases e2 : q = i
      · subst e2; simp [e1]
      · simp [e1, e2]
  · have hr : ∀ p, p < n → RowAt ((w.setCell ⟨g, i, none⟩ (.slice (some ⟨b j, 0, none⟩) n n)).setCell ⟨g, j, none⟩ (.slice (some ⟨b i, 0, none⟩) n n)) (b p) n (f p) := fun p hp => ((h.row p hp).far (hne p hp) _).far (hne p hp) _
    unfold swp
    by_cases e1 : q = i
    · simp only [if_pos e1]; exact hr j hj
    · by_cases e2 : q = j
      · simp only [if_neg e1, if_pos e2]; exact hr i hi
      · simp only [if_neg e1, if_neg e2]; exact hr q hq
  · have hs : ∀ q, swp b i j q = b (sw i j q) := fun q => by
      unfold swp sw
      by_cases e1 : q = i
      · rw [if_pos e1, if_pos e1]
      · rw [if_neg e1, if_neg e1]
        by_cases e2 : q = j
        · rw [if_pos e2, if_pos e2]
        · rw [if_neg e2, if_neg e2]
    rw [hs, hs] at e
    have := h.inj _ _ (sw_lt hi hj hp) (sw_lt hi hj hq) e
    rw [← sw_sw i j p, this, sw_sw]
/-! the closures -/
set_option maxHeartbeats 4000000 in
theorem swap52 (W : World) (g n k p kb pb : Nat) (b : Nat → Nat) (f : Nat → Nat → Nat) (h : Grid W g b n f) (hk : W.cell? ⟨kb, 0, none⟩ = some (.int .i64 (k : Nat))) (hp : W.cell? ⟨pb, 0, none⟩ = some (.int .i64 (p : Nat))) (hkp : k + p < n) (hn : n ≤ 1000000) :
    Calls Try.prog 52 #[.slice (some ⟨g, 0, none⟩) n n, .pointer (some ⟨kb, 0, none⟩), .pointer (some ⟨pb, 0, none⟩)] W fun e W' => e = .returned (.tuple #[]) ∧ W.grownBy W' (some g) ∧ Grid W' g (swp b k (k + p)) n (swp f k (k + p)) := by
  have c1 := h.cell (show k < n by omega)
  have c2 := h.cell (show k + p < n by omega)
  have f1 := h.frozen k
  have f2 := h.frozen (k + p)
  have HS : Hid (Grid ((W.setCell ⟨g, k, none⟩ (.slice (some ⟨b (k + p), 0, none⟩) n n)).setCell ⟨g, k + p, none⟩ (.slice (some ⟨b k, 0, none⟩) n n)) g (swp b k (k + p)) n (swp f k (k + p))) := h.swap (show k < n by omega) hkp
  have HG : Hid (∀ W : World, Grid W g b n f → Grid ((W.setCell ⟨g, k, none⟩ (.slice (some ⟨b (k + p), 0, none⟩) n n)).setCell ⟨g, k + p, none⟩ (.slice (some ⟨b k, 0, none⟩) n n)) g (swp b k (k + p)) n (swp f k (k + p))) := fun W h => h.swap (show k < n by omega) hkp
  have HH : Hid (Grid W g b n f) := h
  have n1 : kb ≠ g := by
    rintro rfl
    have := h.cell (show 0 < n by omega)
    rw [this] at hk
    cases hk
  have n2 : pb ≠ g := by
    rintro rfl
    have := h.cell (show 0 < n by omega)
    rw [this] at hp
    cases hp
  have hk3 : ∀ v, (W.setCell ⟨g, k, none⟩ v).drew.cell? ⟨kb, 0, none⟩ = some (.int .i64 (k : Nat)) := fun v => (cell_far (W := W) (p := ⟨g, k, none⟩) (a := ⟨kb, 0, none⟩) n1 v).trans hk
  have hp3 : ∀ v, (W.setCell ⟨g, k, none⟩ v).drew.cell? ⟨pb, 0, none⟩ = some (.int .i64 (p : Nat)) := fun v => (cell_far (W := W) (p := ⟨g, k, none⟩) (a := ⟨pb, 0, none⟩) n2 v).trans hp
  have q1 : (0 : Int) ≤ (k : Int) := by omega
  have q2 : (k : Int) < (n : Int) := by omega
  have q3 : (0 : Int) ≤ (k : Int) + (p : Int) := by omega
  have q4 : (k : Int) + (p : Int) < (n : Int) := by omega
  have q5 : ((k : Int) + (p : Int)).toNat = k + p := by omega
  clear h HS
  generalize b k = bk at *
  generalize b (k + p) = bp at *
  obtain ⟨v2, hv2⟩ := cell?_setCell_some (w := W) (p := ⟨g, k, none⟩) (x := .slice (some ⟨bp, 0, none⟩) n n) (q := ⟨g, k + p, none⟩) (v := .slice (some ⟨bp, 0, none⟩) n n) (by go_simp)
  have hv3 : (W.setCell ⟨g, k, none⟩ (.slice (some ⟨bp, 0, none⟩) n n)).drew.cell? ⟨g, k + p, none⟩ = some v2 := hv2
  go_enter Try.func52, Try.ntmps52
  go_region
  all_goals go_end0
  all_goals refine ⟨rfl, only_drew (only_set (only_set (World.grownBy.refl _ _) _ _) _ _), (HG.out _ HH.out).drew⟩
theorem grown_drew {w w' : World} {row : Option Nat} (h : w.drew.grownBy w' row) : w.grownBy w' row := ⟨h.os, h.tape, h.output, h.size, h.block⟩
set_option maxHeartbeats 1000000 in
theorem scale53 (W : World) (g n k kb yb y : Nat) (b : Nat → Nat) (f : Nat → Nat → Nat) (h : Grid W g b n f) (hk : W.cell? ⟨kb, 0, none⟩ = some (.int .i64 (k : Nat))) (hy : W.cell? ⟨yb, 0, none⟩ = some (.int .u8 (y : Nat))) (hkn : k < n) (hn : n ≤ 1000000) (hf : ∀ j, j < n → f k j < 256) (hy256 : y < 256) :
    Calls Try.prog 53 #[.slice (some ⟨g, 0, none⟩) n n, .pointer (some ⟨kb, 0, none⟩), .pointer (some ⟨yb, 0, none⟩)] W fun e W' => e = .returned (.tuple #[]) ∧ W.grownBy W' (some (b k)) ∧ RowAt W' (b k) n (fun j => GfM.M (f k j) y) := by
  have c1 := h.cell hkn
  have HS : Hid (Calls Try.prog 54 #[.slice (some ⟨b k, 0, none⟩) n n, .int .u8 y] W.drew fun e w' => e = .returned (.tuple #[]) ∧ W.drew.grownBy w' (some (b k)) ∧ RowAt w' (b k) n (fun j => GfM.M (f k j) y)) := scale54 W.drew (b k) n y (f k) (h.row k hkn).drew hf hy256 hn
  have q1 : (0 : Int) ≤ (k : Int) := by omega
  have q2 : (k : Int) < (n : Int) := by omega
  clear h hf
  generalize b k = bk at *
  go_enter Try.func53, Try.ntmps53
  refine start_ (n := 6) (S := fun w' => w'.cell? ⟨kb, 0, none⟩ = some (.int .i64 (k : Nat)) ∧ w'.cell? ⟨yb, 0, none⟩ = some (.int .u8 (y : Nat)) ∧ w'.cell? ⟨g, k, none⟩ = some (.slice (some ⟨bk, 0, none⟩) n n)) (ds := [5]) #[false, false, false, false, false, false] (by kernel_rfl) rfl rfl ⟨hk, hy, c1⟩ (fun hHeld => ?_)
  refine pure_ (i := 0) (N := some 4) (v := ?_) (a' := ?_) #[true, false, false, false, false, false] rfl rfl (by kernel_rfl) (fun _ _ _ h => h) (Or.inl ⟨by rfl, ?_⟩) ?_ ?_
  rotate_left
  · intro w'
    go_simp
    with_reducible rfl
  rotate_left
  · simp only [Act.put, List.setIfInBounds_toArray, List.set_cons_zero, List.set_cons_succ, i64_w, i32_w]
    rfl
  refine take_ (i := 1) (N := some 5) (v := ?_) (a' := ?_) #[true, true, false, false, false, false] rfl rfl (by kernel_rfl) (fun _ _ _ h => h) (Or.inl ⟨by rfl, ?_⟩) hHeld ?_ ?_
  rotate_left
  · rintro w' ⟨s0, s1, s2⟩
    go_simp
    with_reducible rfl
  rotate_left
  · simp only [Act.put, List.setIfInBounds_toArray, List.set_cons_zero, List.set_cons_succ, i64_w, i32_w]
    rfl
  refine pure_ (i := 2) (N := some 6) (v := ?_) (a' := ?_) #[true, true, true, false, false, false] rfl rfl (by kernel_rfl) (fun _ _ _ h => h) (Or.inl ⟨by rfl, ?_⟩) ?_ ?_
  rotate_left
  · intro w'
    go_simp
    with_reducible rfl
  rotate_left
  · simp only [Act.put, List.setIfInBounds_toArray, List.set_cons_zero, List.set_cons_succ, i64_w, i32_w]
    rfl
  refine take_ (i := 3) (N := some 7) (v := ?_) (a' := ?_) #[true, true, true, true, false, false] rfl rfl (by kernel_rfl) (fun _ _ _ h => h) (Or.inl ⟨by rfl, ?_⟩) hHeld ?_ ?_
  rotate_left
  · rintro w' ⟨s0, s1, s2⟩
    go_simp
    with_reducible rfl
  rotate_left
  · simp only [Act.put, List.setIfInBounds_toArray, List.set_cons_zero, List.set_cons_succ, i64_w, i32_w]
    rfl
  refine take_ (i := 4) (N := some 8) (v := ?_) (a' := ?_) #[true, true, true, true, true, false] rfl rfl (by kernel_rfl) (fun _ _ _ h => h) (Or.inl ⟨by rfl, ?_⟩) hHeld ?_ ?_
  rotate_left
  · rintro w' ⟨s0, s1, s2⟩
    go_simp
    with_reducible rfl
  rotate_left
  · simp only [Act.put, List.setIfInBounds_toArray, List.set_cons_zero, List.set_cons_succ, i64_w, i32_w]
    rfl
  refine last_ (i := 5) (N := some 9) #[true, true, true, true, true, true] rfl rfl (by kernel_rfl) (by decide) (fun K hK => ?_)
  refine goes_ Try.func54 (by kernel_rfl) rfl #[.slice (some ⟨bk, 0, none⟩) n n, .int .u8 (y : Nat)] (by rfl) rfl rfl (by simp only [List.map_toArray, List.map_cons, List.map_nil]; rfl) ?_
  refine Calls.mono (HS.out) ?_
  rintro e w2 ⟨rfl, hG, hR⟩
  refine ⟨_, rfl, ?_⟩
  refine hK.out _ _ ?_
  clear hK K
  refine norm_ (a' := ?_) ?_ ?_
  rotate_left
  · show Act.put _ (some 9) _ = _
    simp only [Act.put, List.setIfInBounds_toArray, List.set_cons_zero, List.set_cons_succ, i64_w, i32_w]
    rfl
  refine done_ (by kernel_rfl) ?_
  go_end0
  exact ⟨rfl, grown_drew hG, hR⟩
set_option maxHeartbeats 1000000 in
theorem plus55 (W : World) (g n i k ib kb yb y : Nat) (b : Nat → Nat) (f : Nat → Nat → Nat) (h : Grid W g b n f) (hi : W.cell? ⟨ib, 0, none⟩ = some (.int .i64 (i : Nat))) (hk : W.cell? ⟨kb, 0, none⟩ = some (.int .i64 (k : Nat))) (hy : W.cell? ⟨yb, 0, none⟩ = some (.int .u8 (y : Nat))) (hin : i < n) (hkn : k < n) (hne : i ≠ k) (hn : n ≤ 1000000) (hf : ∀ j, j < n → f i j < 256) (hf2 : ∀ j, j < n → f k j < 256) (hy256 : y < 256) :
    Calls Try.prog 55 #[.slice (some ⟨g, 0, none⟩) n n, .pointer (some ⟨ib, 0, none⟩), .pointer (some ⟨kb, 0, none⟩), .pointer (some ⟨yb, 0, none⟩)] W fun e W' => e = .returned (.tuple #[]) ∧ W.grownBy W' (some (b i)) ∧ RowAt W' (b i) n (mixf (f i) (f k) y) := by
  have c1 := h.cell hin
  have c2 := h.cell hkn
  have HS : Hid (Calls Try.prog 56 #[.slice (some ⟨b i, 0, none⟩) n n, .slice (some ⟨b k, 0, none⟩) n n, .int .u8 y] W.drew fun e w' => e = .returned (.tuple #[]) ∧ W.drew.grownBy w' (some (b i)) ∧ RowAt w' (b i) n (mixf (f i) (f k) y)) :=
    plus56 W.drew (b i) (b k) n y (f i) (f k) (h.row i hin).drew (h.row k hkn).drew (fun e => hne (h.inj i k hin hkn e.symm)) hf hf2 hy256 hn
  have q1 : (0 : Int) ≤ (k : Int) := by omega
  have q2 : (k : Int) < (n : Int) := by omega
  have q3 : (0 : Int) ≤ (i : Int) := by omega
  have q4 : (i : Int) < (n : Int) := by omega
  clear h hf hf2
  generalize b k = bk at *
  generalize b i = bi at *
  go_enter Try.func55, Try.ntmps55
  refine start_ (n := 10) (S := fun w' => w'.cell? ⟨ib, 0, none⟩ = some (.int .i64 (i : Nat)) ∧ w'.cell? ⟨kb, 0, none⟩ = some (.int .i64 (k : Nat)) ∧ w'.cell? ⟨yb, 0, none⟩ = some (.int .u8 (y : Nat)) ∧ w'.cell? ⟨g, i, none⟩ = some (.slice (some ⟨bi, 0, none⟩) n n) ∧ w'.cell? ⟨g, k, none⟩ = some (.slice (some ⟨bk, 0, none⟩) n n)) (ds := [9]) #[false, false, false, false, false, false, false, false, false, false] (by kernel_rfl) rfl rfl ⟨hi, hk, hy, c1, c2⟩ (fun hHeld => ?_)
  refine pure_ (i := 0) (N := some 5) (v := ?_) (a' := ?_) #[true, false, false, false, false, false, false, false, false, false] rfl rfl (by kernel_rfl) (fun _ _ _ h => h) (Or.inl ⟨by rfl, ?_⟩) ?_ ?_
  rotate_left
  · intro w'
    go_simp
    with_reducible rfl
  rotate_left
  · simp only [Act.put, List.setIfInBounds_toArray, List.set_cons_zero, List.set_cons_succ, i64_w, i32_w]
    rfl
  refine pure_ (i := 4) (N := some 9) (v := ?_) (a' := ?_) #[true, false, false, false, true, false, false, false, false, false] rfl rfl (by kernel_rfl) (fun _ _ _ h => h) (Or.inl ⟨by rfl, ?_⟩) ?_ ?_
  rotate_left
  · intro w'
    go_simp
    with_reducible rfl
  rotate_left
  · simp only [Act.put, List.setIfInBounds_toArray, List.set_cons_zero, List.set_cons_succ, i64_w, i32_w]
    rfl
  refine take_ (i := 1) (N := some 6) (v := ?_) (a' := ?_) #[true, true, false, false, true, false, false, false, false, false] rfl rfl (by kernel_rfl) (fun _ _ _ h => h) (Or.inl ⟨by rfl, ?_⟩) hHeld ?_ ?_
  rotate_left
  · rintro w' ⟨s0, s1, s2, s3, s4⟩
    go_simp
    with_reducible rfl
  rotate_left
  · simp only [Act.put, List.setIfInBounds_toArray, List.set_cons_zero, List.set_cons_succ, i64_w, i32_w]
    rfl
  refine pure_ (i := 2) (N := some 7) (v := ?_) (a' := ?_) #[true, true, true, false, true, false, false, false, false, false] rfl rfl (by kernel_rfl) (fun _ _ _ h => h) (Or.inl ⟨by rfl, ?_⟩) ?_ ?_
  rotate_left
  · intro w'
    go_simp
    with_reducible rfl
  rotate_left
  · simp only [Act.put, List.setIfInBounds_toArray, List.set_cons_zero, List.set_cons_succ, i64_w, i32_w]
    rfl
  refine take_ (i := 3) (N := some 8) (v := ?_) (a' := ?_) #[true, true, true, true, true, false, false, false, false, false] rfl rfl (by kernel_rfl) (fun _ _ _ h => h) (Or.inl ⟨by rfl, ?_⟩) hHeld ?_ ?_
  rotate_left
  · rintro w' ⟨s0, s1, s2, s3, s4⟩
    go_simp
    with_reducible rfl
  rotate_left
  · simp only [Act.put, List.setIfInBounds_toArray, List.set_cons_zero, List.set_cons_succ, i64_w, i32_w]
    rfl
  refine take_ (i := 5) (N := some 10) (v := ?_) (a' := ?_) #[true, true, true, true, true, true, false, false, false, false] rfl rfl (by kernel_rfl) (fun _ _ _ h => h) (Or.inl ⟨by rfl, ?_⟩) hHeld ?_ ?_
  rotate_left
  · rintro w' ⟨s0, s1, s2, s3, s4⟩
    go_simp
    with_reducible rfl
  rotate_left
  · simp only [Act.put, List.setIfInBounds_toArray, List.set_cons_zero, List.set_cons_succ, i64_w, i32_w]
    rfl
  refine pure_ (i := 6) (N := some 11) (v := ?_) (a' := ?_) #[true, true, true, true, true, true, true, false, false, false] rfl rfl (by kernel_rfl) (fun _ _ _ h => h) (Or.inl ⟨by rfl, ?_⟩) ?_ ?_
  rotate_left
  · intro w'
    go_simp
    with_reducible rfl
  rotate_left
  · simp only [Act.put, List.setIfInBounds_toArray, List.set_cons_zero, List.set_cons_succ, i64_w, i32_w]
    rfl
  refine take_ (i := 7) (N := some 12) (v := ?_) (a' := ?_) #[true, true, true, true, true, true, true, true, false, false] rfl rfl (by kernel_rfl) (fun _ _ _ h => h) (Or.inl ⟨by rfl, ?_⟩) hHeld ?_ ?_
  rotate_left
  · rintro w' ⟨s0, s1, s2, s3, s4⟩
    go_simp
    with_reducible rfl
  rotate_left
  · simp only [Act.put, List.setIfInBounds_toArray, List.set_cons_zero, List.set_cons_succ, i64_w, i32_w]
    rfl
  refine take_ (i := 8) (N := some 13) (v := ?_) (a' := ?_) #[true, true, true, true, true, true, true, true, true, false] rfl rfl (by kernel_rfl) (fun _ _ _ h => h) (Or.inl ⟨by rfl, ?_⟩) hHeld ?_ ?_
  rotate_left
  · rintro w' ⟨s0, s1, s2, s3, s4⟩
    go_simp
    with_reducible rfl
  rotate_left
  · simp only [Act.put, List.setIfInBounds_toArray, List.set_cons_zero, List.set_cons_succ, i64_w, i32_w]
    rfl
  refine last_ (i := 9) (N := some 14) #[true, true, true, true, true, true, true, true, true, true] rfl rfl (by kernel_rfl) (by decide) (fun K hK => ?_)
  refine goes_ Try.func56 (by kernel_rfl) rfl #[.slice (some ⟨bi, 0, none⟩) n n, .slice (some ⟨bk, 0, none⟩) n n, .int .u8 (y : Nat)] (by rfl) rfl rfl (by simp only [List.map_toArray, List.map_cons, List.map_nil]; rfl) ?_
  refine Calls.mono (HS.out) ?_
  rintro e w2 ⟨rfl, hG, hR⟩
  refine ⟨_, rfl, ?_⟩
  refine hK.out _ _ ?_
  clear hK K
  refine norm_ (a' := ?_) ?_ ?_
  rotate_left
  · show Act.put _ (some 14) _ = _
    simp only [Act.put, List.setIfInBounds_toArray, List.set_cons_zero, List.set_cons_succ, i64_w, i32_w]
    rfl
  refine done_ (by kernel_rfl) ?_
  go_end0
  exact ⟨rfl, grown_drew hG, hR⟩
end Go.Proofs.Ytgoacbbaiigpeaa.Gf
