/-
  The law's helper known.
-/
import Derived.Test.YtjolnjckgoilpaaRsKn
set_option linter.unusedVariables false
set_option linter.unusedSimpArgs false
namespace Go.Proofs.Ytjolnjckgoilpaa.Rs
open Go.RowKit Go.Proofs.YtjolnjckgoilpaaW.PrintWords Go.Proofs.YtjolnjckgoilpaaW.PrintLast Go.Proofs.YtjolnjckgoilpaaW.PrintMore Go.Proofs.Ytjolnjckgoilpaa.PRa Go.Proofs.Ytjolnjckgoilpaa.Gf
/-- A slice of rows, out of its block. -/
theorem KR_of {w : World} {b n : Nat} {cs : Array Value} {l : List (List Int)} (hb : w.heap[b]? = some (.cells cs 25 (0, 0))) (hl : l.length = n) (hn : n ≤ 1000000000)
    (h : ∀ j, j < n → ∃ A c', cs[j]? = some (.slice A (row l j).length c') ∧ (row l j).length ≤ c' ∧ KB.C w A (row l j).length (row l j)) : KR.C w (some ⟨b, 0, none⟩) n l := by
  refine ⟨hl, by omega, fun _ => ⟨_, rfl, fun j p hj => ?_⟩⟩
  obtain ⟨hjl, hp⟩ := List.getElem?_eq_some_iff.1 hj
  have e : row l j = p := by unfold row; rw [List.getD_eq_getElem?_getD, hj]; rfl
  obtain ⟨A, c', h1, h2, h3⟩ := h j (by omega)
  rw [e] at h1 h2 h3
  refine ⟨[.slice A p.length c'], rfl, ⟨A, c', rfl, h2, h3⟩, fun i u hu => ?_⟩
  cases i with
  | zero =>
    obtain rfl : Value.slice A p.length c' = u := by simpa using hu
    rw [show j * KR.sz + 0 = j by simp [KR, Kd.slice], Addr.add_mid, Nat.zero_add, cell_of_row w b j _ 25 (0, 0) hb]
    exact h1
  | succ i => simp at hu
theorem KB_row {w : World} {d m : Nat} {f : Nat → Nat} (h : RowAt w d m f) (hm : m ≤ 1000000000) : KB.C w (some ⟨d, 0, none⟩) m (rowL m f) := by
  have := (Kd.R_reads' (c := m) (A := some ⟨d, 0, none⟩) (n := m) (rowAt_R h (Nat.zero_le _) hm (ok := fun _ => True) trivial)).2.2
  rwa [rowL_length] at this
theorem KB_nil (w : World) : KB.C w none ([] : List Int).length [] := Kd.C_nil _ _
def kW (w : World) : World := ((w.alloc (.cells #[.int .u8 5] 5)).alloc (.cells #[.int .u8 6] 5)).alloc (.cells #[.slice (some ⟨w.heap.size, 0, none⟩) 1 1, .slice (some ⟨w.heap.size + 1, 0, none⟩) 1 1] 25)
theorem kW_below (w : World) : Below w.heap.size w (kW w) := below_alloc (below_alloc (below_alloc (Below.refl _ _) _) _) _
theorem size2 (w : World) (o o' : Obj) : ((w.alloc o).alloc o').heap.size = w.heap.size + 2 := by simp
theorem known_par (w : World) (g : Nat) (hc : CodeAt w g 2) : Calls Try.prog 11 #[.pointer (some ⟨g, 0, none⟩), .slice (some ⟨w.heap.size + 2, 0, none⟩) 2 2] (kW w) (ParityQ (kW w) 2 1 [[5], [6]]) := by
  have h5 : RowAt (kW w) w.heap.size 1 (fun _ => 5) := blkalloc (blkalloc (heap_alloc_last w _) _) _
  have h6 : RowAt (kW w) (w.heap.size + 1) 1 (fun _ => 6) := by
    have := heap_alloc_last (w.alloc (.cells #[.int .u8 5] 5)) (.cells #[.int .u8 6] 5)
    rw [World.size_alloc] at this
    exact blkalloc this _
  have hb : (kW w).heap[w.heap.size + 2]? = some (.cells #[.slice (some ⟨w.heap.size, 0, none⟩) 1 1, .slice (some ⟨w.heap.size + 1, 0, none⟩) 1 1] 25 (0, 0)) := by
    have := heap_alloc_last ((w.alloc (.cells #[.int .u8 5] 5)).alloc (.cells #[.int .u8 6] 5)) (.cells #[.slice (some ⟨w.heap.size, 0, none⟩) 1 1, .slice (some ⟨w.heap.size + 1, 0, none⟩) 1 1] 25)
    rw [size2] at this
    exact this
  refine parity11_ok (kW w) g 2 (hc.below (kW_below w)) (by omega) (by omega) _ 2 [[5], [6]] (KR_of hb rfl (by omega) (fun j hj => ?_)) rfl (Nat.le_refl _) 1 (by omega) (by decide) (fun i hi => ?_) (by decide) (by decide)
  · match j, hj with
    | 0, _ => exact ⟨_, _, rfl, Nat.le_refl _, KB_row h5 (by omega)⟩
    | 1, _ => exact ⟨_, _, rfl, Nat.le_refl _, KB_row h6 (by omega)⟩
  · match i, hi with
    | 0, _ => rfl
    | 1, _ => rfl
def rW (w : World) : World := (w.alloc (.cells #[.int .u8 9] 5)).alloc (.cells #[.slice none 0 0, .slice none 0 0, .slice none 0 0, .slice (some ⟨w.heap.size, 0, none⟩) 1 1] 25)
theorem rW_below (w : World) : Below w.heap.size w (rW w) := below_alloc (below_alloc (Below.refl _ _) _) _
theorem known_reb (w : World) (g : Nat) (hc : CodeAt w g 2) : Calls Try.prog 12 #[.pointer (some ⟨g, 0, none⟩), .slice (some ⟨w.heap.size + 1, 0, none⟩) 4 4] (rW w) (NoQ (rW w) 7) := by
  have h9 : RowAt (rW w) w.heap.size 1 (fun _ => 9) := blkalloc (heap_alloc_last w _) _
  have hb : (rW w).heap[w.heap.size + 1]? = some (.cells #[.slice none 0 0, .slice none 0 0, .slice none 0 0, .slice (some ⟨w.heap.size, 0, none⟩) 1 1] 25 (0, 0)) := by
    have := heap_alloc_last (w.alloc (.cells #[.int .u8 9] 5)) (.cells #[.slice none 0 0, .slice none 0 0, .slice none 0 0, .slice (some ⟨w.heap.size, 0, none⟩) 1 1] 25)
    rw [World.size_alloc] at this
    exact this
  refine rebuild12_lost (rW w) g 2 (hc.below (rW_below w)) (by omega) _ 4 [[], [], [], [9]] (KR_of hb rfl (by simp) (fun j hj => ?_)) (by simp) (by simp) (by decide) (by decide)
  match j, hj with
  | 0, _ => exact ⟨none, 0, rfl, Nat.le_refl _, KB_nil _⟩
  | 1, _ => exact ⟨none, 0, rfl, Nat.le_refl _, KB_nil _⟩
  | 2, _ => exact ⟨none, 0, rfl, Nat.le_refl _, KB_nil _⟩
  | 3, _ => exact ⟨_, _, rfl, Nat.le_refl _, KB_row h9 (by omega)⟩
theorem tcol_a : tcol (rho 0) [[5], [6]] 2 0 = 3 := by decide
theorem tcol_b : tcol (rho 1) [[5], [6]] 2 0 = 9 := by decide
set_option maxHeartbeats 8000000 in
set_option maxRecDepth 100000 in
theorem known8 (w : World) : Calls Try.prog 8 #[] w fun e w' => e = .returned (.bool true) ∧ Below w.heap.size w w' := by
  have HN := Aside0.mk (fun (W : World) => (by refine (new10 W 2).mono ?_; rintro e w' ⟨hb, h⟩; rw [if_pos (by omega)] at h; obtain ⟨g, rfl, hg, hc⟩ := h; exact ⟨g, rfl, hc, hb⟩ : Calls Try.prog 10 #[.int .i64 2] W fun e w' => ∃ g, e = .returned (.tuple #[.pointer (some ⟨g, 0, none⟩), .int .i64 0]) ∧ CodeAt w' g 2 ∧ Below W.heap.size W w'))
  go_enter Try.func8, Try.ntmps8
  go_wp2_with (first
    | (go_at_call 10; refine Calls.mono (HN.out _) ?_; rintro e w1 ⟨g, rfl, hc, hb⟩; have HC := Aside0.mk hc; have HB := Aside0.mk hb; clear hc hb)
    | (go_at_call 11; refine Calls.mono (known_par w1 g HC.out) ?_; rintro e w2 ⟨b, g0, g1, rfl, hp⟩; have HP := Aside0.mk hp; have HB2 := Aside0.mk (below_then HB.out HB.out.size (below_then (kW_below w1) (kW_below w1).size hp.below)); have HC2 := Aside0.mk ((HC.out.below (kW_below w1)).below hp.below); clear hp)
    | (go_at_call 12; refine Calls.mono (known_reb w2 g HC2.out) ?_; rintro e w3 ⟨rfl, hb⟩
       have hz : Below w2.heap.size w2 w3 := below_then (rW_below w2) (rW_below w2).size hb
       have c0 : w3.cell? ⟨b, 0, none⟩ = some (.slice (some ⟨g0, 0, none⟩) 1 1) := pw_cell_below hz (by rw [cell_of_row w2 b 0 _ 25 (0, 0) HP.out.top]; rfl)
       have c1 : w3.cell? ⟨b, 1, none⟩ = some (.slice (some ⟨g1, 0, none⟩) 1 1) := pw_cell_below hz (by rw [cell_of_row w2 b 1 _ 25 (0, 0) HP.out.top]; rfl)
       have d0 : w3.cell? ⟨g0, 0, none⟩ = some (.int .u8 3) := pw_cell_below hz (by have := HP.out.row0.cell (j := 0) (by omega); rw [tcol_a] at this; exact this)
       have d1 : w3.cell? ⟨g1, 0, none⟩ = some (.int .u8 9) := pw_cell_below hz (by have := HP.out.row1.cell (j := 0) (by omega); rw [tcol_b] at this; exact this)
       have HB3 := Aside0.mk (below_then HB2.out HB2.out.size hz)
       have HC3 := Aside0.mk (HC2.out.below hz)
       clear hb hz)
    | (go_at_call 16; refine Calls.mono (k16 _ g 2 HC3.out) ?_; rintro e w4 ⟨rfl, rfl⟩))
  go_ret
  exact ⟨rfl, HB3.out⟩
end Go.Proofs.Ytjolnjckgoilpaa.Rs
