/-
  What gf.Matrix.Inverse holds while it runs: two grids in two boxes, apart from each other; what each of its closures does to both.
-/
import Derived.Test.YtgoacbbaiigpeaaGfGrid
import Derived.Test.YtgoacbbaiigpeaaGfBoth
import Derived.Test.YtgoacbbaiigpeaaGfUnit
set_option linter.unusedVariables false
set_option linter.unusedSimpArgs false
namespace Go.Proofs.Ytgoacbbaiigpeaa.Gf
open Go.RowKit Go.Proofs.YtgoacbbaiigpeaaW.PrintWords Go.Proofs.YtgoacbbaiigpeaaW.PrintLast Go.Proofs.Ytgoacbbaiigpeaa.PGa

/-! the plain side -/
abbrev Sq := (Nat → Nat → Nat) × (Nat → Nat → Nat)
def upd (f : Nat → Nat → Nat) (i : Nat) (r : Nat → Nat) : Nat → Nat → Nat := fun q => if q = i then r else f q
def norm (k y : Nat) (s : Sq) : Sq := (upd s.1 k (fun j => GfM.M (s.1 k j) y), upd s.2 k (fun j => GfM.M (s.2 k j) y))
def add1 (i k y : Nat) (s : Sq) : Sq := (upd s.1 i (mixf (s.1 i) (s.1 k) y), upd s.2 i (mixf (s.2 i) (s.2 k) y))
def elim1 (k i : Nat) (s : Sq) : Sq := if i ≠ k ∧ s.1 i k ≠ 0 then add1 i k (s.1 i k) s else s
def elimN (k : Nat) : Nat → Sq → Sq
  | 0, s => s
  | i + 1, s => elim1 k i (elimN k i s)
def pivot (n k : Nat) (f : Nat → Nat → Nat) : Int := firstIdx (n - k) fun i => f (k + i) k != 0
def swap2 (k p : Nat) (s : Sq) : Sq := (swp s.1 k p, swp s.2 k p)
def normed (k p : Nat) (s : Sq) : Sq := norm k (GfM.P ((swap2 k p s).1 k k) 254) (swap2 k p s)
def stepk (n k : Nat) (s : Sq) : Option Sq := if pivot n k s.1 < 0 then none else some (elimN k n (normed k (k + (pivot n k s.1).toNat) s))
def gj (n : Nat) : Nat → Sq → Option Sq
  | 0, s => some s
  | k + 1, s => (gj n k s).bind (stepk n k)

/-! the world's side -/
structure St (w wr : World) (B5 B6 ga go n : Nat) (ba bo : Nat → Nat) (s : Sq) : Prop where
  below : Below w.heap.size w wr
  x5 : wr.heap[B5]? = some (.cells #[.slice (some ⟨ga, 0, none⟩) n n] 40 (0, 0))
  x6 : wr.heap[B6]? = some (.cells #[.slice (some ⟨go, 0, none⟩) n n] 40 (0, 0))
  a : Grid wr ga ba n s.1
  o : Grid wr go bo n s.2
  ne : ga ≠ go
  sep : ∀ i j, i < n → j < n → ba i ≠ bo j
  la : w.heap.size ≤ ga ∧ ∀ j, j < n → w.heap.size ≤ ba j
  lo : w.heap.size ≤ go ∧ ∀ j, j < n → w.heap.size ≤ bo j
  va : ∀ i j, i < n → j < n → s.1 i j < 256
  vo : ∀ i j, i < n → j < n → s.2 i j < 256
section
variable {w wr w2 : World} {B5 B6 ga go n : Nat} {ba bo : Nat → Nat} {s : Sq}
theorem keep_heap {x g : Nat} {o : Obj} (hg : wr.grownBy w2 (some x)) (h : wr.heap[g]? = some o) (hne : g ≠ x) : w2.heap[g]? = some o := (hg.block g (heap_lt h) (by intro e; injection e with e; exact hne e)).trans h
theorem below_grown {x : Nat} (h : Below w.heap.size w wr) (hg : wr.grownBy w2 (some x)) (hx : w.heap.size ≤ x) : Below w.heap.size w w2 :=
  h.grown hg h.size (fun k e => by injection e with e; omega)
theorem St.cell5 (h : St w wr B5 B6 ga go n ba bo s) : wr.cell? ⟨B5, 0, none⟩ = some (.slice (some ⟨ga, 0, none⟩) n n) := by
  rw [cell_of_row wr B5 0 _ 40 (0, 0) h.x5]; rfl
theorem St.cell6 (h : St w wr B5 B6 ga go n ba bo s) : wr.cell? ⟨B6, 0, none⟩ = some (.slice (some ⟨go, 0, none⟩) n n) := by
  rw [cell_of_row wr B6 0 _ 40 (0, 0) h.x6]; rfl
theorem St.step (h : St w wr B5 B6 ga go n ba bo s) (hb : Below wr.heap.size wr w2) : St w w2 B5 B6 ga go n ba bo s :=
  ⟨h.below.trans (hb.mono h.below.size), (hb.block _ (heap_lt h.x5)).trans h.x5, (hb.block _ (heap_lt h.x6)).trans h.x6, h.a.below hb, h.o.below hb, h.ne, h.sep, h.la, h.lo, h.va, h.vo⟩
theorem St.rowA {i : Nat} {r : Nat → Nat} (h : St w wr B5 B6 ga go n ba bo s) (hi : i < n) (hg : wr.grownBy w2 (some (ba i))) (hr : RowAt w2 (ba i) n r) (hv : ∀ j, j < n → r j < 256) : St w w2 B5 B6 ga go n ba bo (upd s.1 i r, s.2) := by
  refine ⟨below_grown h.below hg (h.la.2 i hi), keep_heap hg h.x5 (type_ne h.x5 (h.a.row i hi) (by decide)), keep_heap hg h.x6 (type_ne h.x6 (h.a.row i hi) (by decide)), h.a.rowset hi hg hr, h.o.kept hg (type_ne h.o.top (h.a.row i hi) (by decide)) (fun j hj => (h.sep i j hi hj).symm), h.ne, h.sep, h.la, h.lo, fun p q hp hq => ?_, h.vo⟩
  show upd s.1 i r p q < 256
  unfold upd
  split
  · exact hv q hq
  · exact h.va p q hp hq
theorem St.rowO {i : Nat} {r : Nat → Nat} (h : St w wr B5 B6 ga go n ba bo s) (hi : i < n) (hg : wr.grownBy w2 (some (bo i))) (hr : RowAt w2 (bo i) n r) (hv : ∀ j, j < n → r j < 256) : St w w2 B5 B6 ga go n ba bo (s.1, upd s.2 i r) := by
  refine ⟨below_grown h.below hg (h.lo.2 i hi), keep_heap hg h.x5 (type_ne h.x5 (h.o.row i hi) (by decide)), keep_heap hg h.x6 (type_ne h.x6 (h.o.row i hi) (by decide)), h.a.kept hg (type_ne h.a.top (h.o.row i hi) (by decide)) (fun j hj => h.sep j i hj hi), h.o.rowset hi hg hr, h.ne, h.sep, h.la, h.lo, h.va, fun p q hp hq => ?_⟩
  show upd s.2 i r p q < 256
  unfold upd
  split
  · exact hv q hq
  · exact h.vo p q hp hq
theorem swp_sw {α : Type} (f : Nat → α) (i j q : Nat) : swp f i j q = f (sw i j q) := by
  unfold swp sw
  split
  · rfl
  · split <;> rfl
theorem St.swapA {i j : Nat} (h : St w wr B5 B6 ga go n ba bo s) (hi : i < n) (hj : j < n) (hg : wr.grownBy w2 (some ga)) (hr : Grid w2 ga (swp ba i j) n (swp s.1 i j)) : St w w2 B5 B6 ga go n (swp ba i j) bo (swp s.1 i j, s.2) := by
  refine ⟨below_grown h.below hg h.la.1, keep_heap hg h.x5 (type_ne h.x5 h.a.top (by decide)), keep_heap hg h.x6 (type_ne h.x6 h.a.top (by decide)), hr, h.o.kept hg h.ne.symm (fun j hj => type_ne (h.o.row j hj) h.a.top (by decide)), h.ne, fun p q hp hq => ?_, ⟨h.la.1, fun q hq => ?_⟩, h.lo, fun p q hp hq => ?_, h.vo⟩
  · rw [swp_sw]; exact h.sep _ _ (sw_lt hi hj hp) hq
  · rw [swp_sw]; exact h.la.2 _ (sw_lt hi hj hq)
  · show swp s.1 i j p q < 256
    rw [swp_sw]; exact h.va _ _ (sw_lt hi hj hp) hq
theorem St.swapO {i j : Nat} (h : St w wr B5 B6 ga go n ba bo s) (hi : i < n) (hj : j < n) (hg : wr.grownBy w2 (some go)) (hr : Grid w2 go (swp bo i j) n (swp s.2 i j)) : St w w2 B5 B6 ga go n ba (swp bo i j) (s.1, swp s.2 i j) := by
  refine ⟨below_grown h.below hg h.lo.1, keep_heap hg h.x5 (type_ne h.x5 h.o.top (by decide)), keep_heap hg h.x6 (type_ne h.x6 h.o.top (by decide)), h.a.kept hg h.ne (fun j hj => type_ne (h.a.row j hj) h.o.top (by decide)), hr, h.ne, fun p q hp hq => ?_, h.la, ⟨h.lo.1, fun q hq => ?_⟩, h.va, fun p q hp hq => ?_⟩
  · rw [swp_sw]; exact h.sep _ _ hp (sw_lt hi hj hq)
  · rw [swp_sw]; exact h.lo.2 _ (sw_lt hi hj hq)
  · show swp s.2 i j p q < 256
    rw [swp_sw]; exact h.vo _ _ (sw_lt hi hj hp) hq
theorem box_cell {x t : Nat} {v : Value} (h : wr.heap[x]? = some (.cells #[v] t (0, 0))) : wr.cell? ⟨x, 0, none⟩ = some v := by
  rw [cell_of_row wr x 0 _ t (0, 0) h]; rfl
theorem both_swap {kb pb k p : Nat} (h : St w wr B5 B6 ga go n ba bo s) (hk : wr.heap[kb]? = some (.cells #[.int .i64 (k : Nat)] 3 (0, 0))) (hp : wr.heap[pb]? = some (.cells #[.int .i64 (p : Nat)] 3 (0, 0))) (hkp : k + p < n) (hn : n ≤ 255) :
    Calls Try.prog 49 #[.func (.func 52) #[] #[.pointer (some ⟨kb, 0, none⟩), .pointer (some ⟨pb, 0, none⟩)], .pointer (some ⟨B5, 0, none⟩), .pointer (some ⟨B6, 0, none⟩)] wr fun e w2 => e = .returned (.tuple #[]) ∧ St w w2 B5 B6 ga go n (swp ba k (k + p)) (swp bo k (k + p)) (swap2 k (k + p) s) ∧ w2.heap[kb]? = some (.cells #[.int .i64 (k : Nat)] 3 (0, 0)) := by
  refine both49 wr 52 #[.pointer (some ⟨kb, 0, none⟩), .pointer (some ⟨pb, 0, none⟩)] B5 B6 (.slice (some ⟨ga, 0, none⟩) n n) (.slice (some ⟨go, 0, none⟩) n n)
    (fun w1 => St w w1 B5 B6 ga go n (swp ba k (k + p)) bo (swp s.1 k (k + p), s.2) ∧ w1.heap[kb]? = some (.cells #[.int .i64 (k : Nat)] 3 (0, 0)) ∧ w1.heap[pb]? = some (.cells #[.int .i64 (p : Nat)] 3 (0, 0)))
    (fun w2 => St w w2 B5 B6 ga go n (swp ba k (k + p)) (swp bo k (k + p)) (swap2 k (k + p) s) ∧ w2.heap[kb]? = some (.cells #[.int .i64 (k : Nat)] 3 (0, 0)))
    (Go.Proofs.enters_of Try.func52 (by kernel_rfl) rfl) h.cell5 ?_ ?_
  · refine (swap52 wr ga n k p kb pb ba s.1 h.a (box_cell hk) (box_cell hp) hkp (by omega)).mono ?_
    rintro e w1 ⟨rfl, hg, hG⟩
    exact ⟨rfl, h.swapA (by omega) hkp hg hG, keep_heap hg hk (type_ne hk h.a.top (by decide)), keep_heap hg hp (type_ne hp h.a.top (by decide))⟩
  · rintro w1 ⟨h1, hk1, hp1⟩
    refine ⟨h1.cell6, (swap52 w1 go n k p kb pb bo s.2 h1.o (box_cell hk1) (box_cell hp1) hkp (by omega)).mono ?_⟩
    rintro e w2 ⟨rfl, hg, hG⟩
    exact ⟨rfl, h1.swapO (by omega) hkp hg hG, keep_heap hg hk1 (type_ne hk1 h1.o.top (by decide))⟩
theorem both_scale {kb yb k y : Nat} (h : St w wr B5 B6 ga go n ba bo s) (hk : wr.heap[kb]? = some (.cells #[.int .i64 (k : Nat)] 3 (0, 0))) (hy : wr.heap[yb]? = some (.cells #[.int .u8 (y : Nat)] 5 (0, 0))) (hya : ∀ j, j < n → yb ≠ ba j) (hkn : k < n) (hy256 : y < 256) (hn : n ≤ 255) :
    Calls Try.prog 49 #[.func (.func 53) #[] #[.pointer (some ⟨kb, 0, none⟩), .pointer (some ⟨yb, 0, none⟩)], .pointer (some ⟨B5, 0, none⟩), .pointer (some ⟨B6, 0, none⟩)] wr fun e w2 => e = .returned (.tuple #[]) ∧ St w w2 B5 B6 ga go n ba bo (norm k y s) ∧ w2.heap[kb]? = some (.cells #[.int .i64 (k : Nat)] 3 (0, 0)) := by
  refine both49 wr 53 #[.pointer (some ⟨kb, 0, none⟩), .pointer (some ⟨yb, 0, none⟩)] B5 B6 (.slice (some ⟨ga, 0, none⟩) n n) (.slice (some ⟨go, 0, none⟩) n n)
    (fun w1 => St w w1 B5 B6 ga go n ba bo (upd s.1 k (fun j => GfM.M (s.1 k j) y), s.2) ∧ w1.heap[kb]? = some (.cells #[.int .i64 (k : Nat)] 3 (0, 0)) ∧ w1.heap[yb]? = some (.cells #[.int .u8 (y : Nat)] 5 (0, 0)))
    (fun w2 => St w w2 B5 B6 ga go n ba bo (norm k y s) ∧ w2.heap[kb]? = some (.cells #[.int .i64 (k : Nat)] 3 (0, 0)))
    (Go.Proofs.enters_of Try.func53 (by kernel_rfl) rfl) h.cell5 ?_ ?_
  · refine (scale53 wr ga n k kb yb y ba s.1 h.a (box_cell hk) (box_cell hy) hkn (by omega) (fun j hj => h.va k j hkn hj) hy256).mono ?_
    rintro e w1 ⟨rfl, hg, hR⟩
    exact ⟨rfl, h.rowA hkn hg hR (fun j hj => GfM.M_lt _ _ (h.va k j hkn hj)), keep_heap hg hk (type_ne hk (h.a.row k hkn) (by decide)), keep_heap hg hy (hya k hkn)⟩
  · rintro w1 ⟨h1, hk1, hy1⟩
    refine ⟨h1.cell6, (scale53 w1 go n k kb yb y bo s.2 h1.o (box_cell hk1) (box_cell hy1) hkn (by omega) (fun j hj => h1.vo k j hkn hj) hy256).mono ?_⟩
    rintro e w2 ⟨rfl, hg, hR⟩
    exact ⟨rfl, h1.rowO hkn hg hR (fun j hj => GfM.M_lt _ _ (h1.vo k j hkn hj)), keep_heap hg hk1 (type_ne hk1 (h1.o.row k hkn) (by decide))⟩
theorem mixf_lt {f g : Nat → Nat} {y j : Nat} (h1 : f j < 256) (h2 : g j < 256) : mixf f g y j < 256 := GfM.xor_lt _ _ h1 (GfM.M_lt _ _ h2)
theorem both_plus {ib kb yb i k y : Nat} (h : St w wr B5 B6 ga go n ba bo s) (hi : wr.heap[ib]? = some (.cells #[.int .i64 (i : Nat)] 3 (0, 0))) (hk : wr.heap[kb]? = some (.cells #[.int .i64 (k : Nat)] 3 (0, 0))) (hy : wr.heap[yb]? = some (.cells #[.int .u8 (y : Nat)] 5 (0, 0))) (hya : ∀ j, j < n → yb ≠ ba j) (hin : i < n) (hkn : k < n) (hne : i ≠ k) (hy256 : y < 256) (hn : n ≤ 255) :
    Calls Try.prog 49 #[.func (.func 55) #[] #[.pointer (some ⟨ib, 0, none⟩), .pointer (some ⟨kb, 0, none⟩), .pointer (some ⟨yb, 0, none⟩)], .pointer (some ⟨B5, 0, none⟩), .pointer (some ⟨B6, 0, none⟩)] wr fun e w2 => e = .returned (.tuple #[]) ∧ St w w2 B5 B6 ga go n ba bo (add1 i k y s) ∧ w2.heap[kb]? = some (.cells #[.int .i64 (k : Nat)] 3 (0, 0)) := by
  refine both49 wr 55 #[.pointer (some ⟨ib, 0, none⟩), .pointer (some ⟨kb, 0, none⟩), .pointer (some ⟨yb, 0, none⟩)] B5 B6 (.slice (some ⟨ga, 0, none⟩) n n) (.slice (some ⟨go, 0, none⟩) n n)
    (fun w1 => St w w1 B5 B6 ga go n ba bo (upd s.1 i (mixf (s.1 i) (s.1 k) y), s.2) ∧ w1.heap[ib]? = some (.cells #[.int .i64 (i : Nat)] 3 (0, 0)) ∧ w1.heap[kb]? = some (.cells #[.int .i64 (k : Nat)] 3 (0, 0)) ∧ w1.heap[yb]? = some (.cells #[.int .u8 (y : Nat)] 5 (0, 0)))
    (fun w2 => St w w2 B5 B6 ga go n ba bo (add1 i k y s) ∧ w2.heap[kb]? = some (.cells #[.int .i64 (k : Nat)] 3 (0, 0)))
    (Go.Proofs.enters_of Try.func55 (by kernel_rfl) rfl) h.cell5 ?_ ?_
  · refine (plus55 wr ga n i k ib kb yb y ba s.1 h.a (box_cell hi) (box_cell hk) (box_cell hy) hin hkn hne (by omega) (fun j hj => h.va i j hin hj) (fun j hj => h.va k j hkn hj) hy256).mono ?_
    rintro e w1 ⟨rfl, hg, hR⟩
    exact ⟨rfl, h.rowA hin hg hR (fun j hj => mixf_lt (h.va i j hin hj) (h.va k j hkn hj)), keep_heap hg hi (type_ne hi (h.a.row i hin) (by decide)), keep_heap hg hk (type_ne hk (h.a.row i hin) (by decide)), keep_heap hg hy (hya i hin)⟩
  · rintro w1 ⟨h1, hi1, hk1, hy1⟩
    refine ⟨h1.cell6, (plus55 w1 go n i k ib kb yb y bo s.2 h1.o (box_cell hi1) (box_cell hk1) (box_cell hy1) hin hkn hne (by omega) (fun j hj => h1.vo i j hin hj) (fun j hj => h1.vo k j hkn hj) hy256).mono ?_⟩
    rintro e w2 ⟨rfl, hg, hR⟩
    exact ⟨rfl, h1.rowO hin hg hR (fun j hj => mixf_lt (h1.vo i j hin hj) (h1.vo k j hkn hj)), keep_heap hg hk1 (type_ne hk1 (h1.o.row i hin) (by decide))⟩
end
/-! how it begins -/
def kronN (i j : Nat) : Nat := if i = j then 1 else 0
theorem rowCells_byC (n : Nat) (f : Nat → Nat) : rowCells n n (fun q => ((f q : Nat) : Int)) = byC n f := by
  unfold rowCells byC
  congr 1
  apply List.map_congr_left
  intro j hj
  rw [if_pos (by simpa using hj)]
theorem Outer.grid {w wr : World} {n : Nat} {b : Nat → Nat} {f : Nat → Nat → Nat} (h : Outer w wr n n n b (fun j => rowCells n n (fun q => ((f j q : Nat) : Int)))) : Grid wr w.heap.size b n f :=
  ⟨h.top, fun j hj => by have := (h.row j hj).2; rw [rowCells_byC] at this; exact this, fun i j hi hj e => by
    rcases Nat.lt_trichotomy i j with h1 | h1 | h1
    · have := h.ord i j h1 hj; omega
    · exact h1
    · have := h.ord j i h1 hi; omega⟩
theorem St.begin {w w2 w4 w5 : World} {n : Nat} {ba bo : Nat → Nat} {f : Nat → Nat → Nat} (hB : Below w.heap.size w w2) (h1 : Outer w2 w4 n n n ba (fun j => rowCells n n (fun q => ((f j q : Nat) : Int))))
    (h2 : Outer (w4.alloc (.cells #[.slice (some ⟨w2.heap.size, 0, none⟩) n n] 40)) w5 n n n bo (fun j => rowCells n n (kron j))) (hf : ∀ i j, f i j < 256) :
    St w (w5.alloc (.cells #[.slice (some ⟨w4.heap.size + 1, 0, none⟩) n n] 40)) w4.heap.size w5.heap.size w2.heap.size (w4.heap.size + 1) n ba bo (f, kronN) := by
  have hk : (fun j => rowCells n n (kron j)) = (fun j => rowCells n n (fun q => ((kronN j q : Nat) : Int))) := by
    funext j
    congr 1
    funext q
    simp [kron, kronN]
    split <;> rfl
  rw [hk] at h2
  have s4 : (w4.alloc (.cells #[.slice (some ⟨w2.heap.size, 0, none⟩) n n] 40)).heap.size = w4.heap.size + 1 := by simp
  have g1 := h1.grid
  have g2 := h2.grid
  rw [s4] at g2
  have l1 := h1.lt
  have l2 := h2.lt
  rw [s4] at l2
  have b1 : Below w4.heap.size w4 (w4.alloc (.cells #[.slice (some ⟨w2.heap.size, 0, none⟩) n n] 40)) := below1 _ _
  have b2 := h2.below
  rw [s4] at b2
  have b3 : Below w5.heap.size w5 (w5.alloc (.cells #[.slice (some ⟨w4.heap.size + 1, 0, none⟩) n n] 40)) := below1 _ _
  have b13 : Below w4.heap.size w4 w5 := b1.trans (b2.mono (by omega))
  have hs := hB.size
  refine ⟨(hB.trans ((h1.below.mono hs).trans ((b13.trans (b3.mono (by omega))).mono (by omega)))), ?_, heap_alloc_new w5 _, (g1.below b13).below b3, g2.below b3, by omega, fun i j hi hj => ?_, ⟨hs, fun j hj => ?_⟩, ⟨by omega, fun j hj => ?_⟩, fun i j _ _ => hf i j, fun i j _ _ => by show kronN i j < 256; unfold kronN; split <;> omega⟩
  · have e := heap_alloc_new w4 (.cells #[.slice (some ⟨w2.heap.size, 0, none⟩) n n] 40)
    exact blkalloc ((b2.block _ (by omega)).trans e) _
  · have := heap_lt (h1.row i hi).2
    have h3 := (h2.row j hj).1
    rw [s4] at h3
    omega
  · have := (h1.row j hj).1
    omega
  · have h3 := (h2.row j hj).1
    rw [s4] at h3
    omega
/-- The rows from k on, read. -/
theorem Grid.rest {w : World} {g n : Nat} {b : Nat → Nat} {f : Nat → Nat → Nat} (h : Grid w g b n f) (hn : n ≤ 255) (k : Nat) (hk : k ≤ n) : KR.C w (some ⟨g, k, none⟩) (n - k) ((List.range (n - k)).map fun i => (List.range n).map fun j => ((f (k + i) j : Nat) : Int)) := by
  refine ⟨by simp, by omega, fun _ => ⟨_, rfl, fun j r hj => ?_⟩⟩
  have hjl : j < n - k := by have := (List.getElem?_eq_some_iff.1 hj).1; simpa using this
  obtain rfl : ((List.range n).map fun q => ((f (k + j) q : Nat) : Int)) = r := by simp [hjl] at hj; exact hj
  have hrow := h.row (k + j) (by omega)
  refine ⟨[.slice (some ⟨b (k + j), 0, none⟩) n n], rfl, ⟨some ⟨b (k + j), 0, none⟩, n, by simp, by simp, ?_⟩, fun i u hu => ?_⟩
  · refine Kd.C_of_reads (d := (0 : Int)) (h1 := fun _ => rfl) ⟨rfl, by simp; omega, fun _ => ⟨_, rfl, fun q hq => ?_⟩⟩
    simp at hq
    rw [add_plain, hrow.cell hq]
    simp [hq]
  · match i, hu with
    | 0, hu =>
      obtain rfl := Option.some.inj hu
      rw [show (Kd.slice 5 (Kd.int .u8)).sz = 1 from rfl, show j * 1 + 0 = j by omega]
      have : (⟨g, k, none⟩ : Addr).add j = ⟨g, k + j, none⟩ := by unfold Addr.add; split <;> simp_all
      rw [this]
      exact h.cell (by omega)
/-- The pivot is looked for. -/
theorem pivot50 {w W : World} {B5 B6 ga go n k kb : Nat} {ba bo : Nat → Nat} {s : Sq} (h : St w W B5 B6 ga go n ba bo s) (hn : n ≤ 255) (hkn : k < n) (hk : W.heap[kb]? = some (.cells #[.int .i64 (k : Nat)] 3 (0, 0))) :
    Calls Try.prog 50 #[.slice (some ⟨ga, k, none⟩) ((n - k : Nat)) ((n - k : Nat)), .func (.func 51) #[] #[.pointer (some ⟨kb, 0, none⟩)]] W fun e w' => e = .returned (.int .i64 (pivot n k s.1)) ∧ Below W.heap.size W w' := by
  have hR := h.a.rest hn k (by omega)
  have hl : ((List.range (n - k)).map fun i => (List.range n).map fun j => ((s.1 (k + i) j : Nat) : Int)).length = n - k := by simp
  have hrow : ∀ i, i < n - k → row ((List.range (n - k)).map fun i => (List.range n).map fun j => ((s.1 (k + i) j : Nat) : Int)) i = (List.range n).map fun j => ((s.1 (k + i) j : Nat) : Int) := fun i hi => by simp [row, List.getD, hi]
  have := index50 W (some ⟨ga, k, none⟩) (n - k) ((List.range (n - k)).map fun i => (List.range n).map fun j => ((s.1 (k + i) j : Nat) : Int)) 51 #[.pointer (some ⟨kb, 0, none⟩)] (fun i => s.1 (k + i) k != 0) (by rw [hl]; exact hR) (Go.Proofs.enters_of Try.func51 (by kernel_rfl) rfl) (by
    intro i hi A' c' W2 hW2 hK hle
    rw [hl] at hi
    rw [hrow i hi] at hK hle ⊢
    refine (nonz51 W2 A' _ c' kb k hK (pw_cell_below hW2 (box_cell hk)) (by simp; omega)).mono ?_
    rintro e w' ⟨rfl, rfl⟩
    refine ⟨?_, Below.refl _ _⟩
    have e1 : ((List.range n).map fun j => ((s.1 (k + i) j : Nat) : Int)).getD k 0 = ((s.1 (k + i) k : Nat) : Int) := by simp [List.getD, hkn]
    rw [e1]
    by_cases e : s.1 (k + i) k = 0
    · simp [e]
    · have : ((s.1 (k + i) k : Nat) : Int) ≠ 0 := by omega
      rw [bne_iff_ne.2 this, bne_iff_ne.2 e])
  rw [hl] at this
  exact this
theorem firstIdx_cases (n : Nat) (p : Nat → Bool) : (firstIdx n p < 0 ∧ ∀ q, q < n → p q = false) ∨ ∃ k, k < n ∧ p k = true ∧ (∀ q, q < k → p q = false) ∧ firstIdx n p = k := by
  by_cases h : ∃ k, k < n ∧ p k = true
  · right
    have h2 : ∃ k, k < n ∧ p k = true ∧ ∀ q, q < k → p q = false := by
      obtain ⟨k, hk, hp⟩ := h
      induction k using Nat.strongRecOn with
      | ind k ih =>
        by_cases e : ∃ q, q < k ∧ p q = true
        · obtain ⟨q, hq, hpq⟩ := e
          exact ih q hq (by omega) hpq
        · exact ⟨k, hk, hp, fun q hq => by
            cases hc : p q
            · rfl
            · exact absurd ⟨q, hq, hc⟩ e⟩
    obtain ⟨k, hk, hp, hno⟩ := h2
    exact ⟨k, hk, hp, hno, firstIdx_at hk hp hno⟩
  · left
    have hno : ∀ q, q < n → p q = false := fun q hq => by
      cases hc : p q
      · rfl
      · exact absurd ⟨q, hq, hc⟩ h
    exact ⟨by rw [firstIdx_none hno]; omega, hno⟩
theorem pivot_cases (n k : Nat) (f : Nat → Nat → Nat) : (pivot n k f < 0) ∨ ∃ p, k + p < n ∧ pivot n k f = (p : Nat) ∧ f (k + p) k ≠ 0 := by
  rcases firstIdx_cases (n - k) (fun i => f (k + i) k != 0) with ⟨h, _⟩ | ⟨p, hp, h1, _, h2⟩
  · exact .inl h
  · exact .inr ⟨p, by omega, h2, by simpa using h1⟩
theorem gj_none {n k : Nat} {s0 s : Sq} (h : gj n k s0 = some s) (hp : pivot n k s.1 < 0) : ∀ m, k < m → gj n m s0 = none := by
  intro m hm
  induction m with
  | zero => omega
  | succ m ih =>
    by_cases e : m = k
    · subst e
      simp [gj, h, stepk, hp]
    · simp [gj, ih (by omega)]
theorem gj_step {n k p : Nat} {s0 s : Sq} (h : gj n k s0 = some s) (hp : pivot n k s.1 = (p : Nat)) : gj n (k + 1) s0 = some (elimN k n (normed k (k + p) s)) := by
  simp only [gj, h, Option.bind_some, stepk]
  rw [hp, if_neg (by omega), Int.toNat_natCast]
theorem M_one_left (a : Nat) (h : a < 256) : GfM.M 1 a = a := by rw [GfM.M_comm 1 a (by omega) h, GfM.M_one a h]
end Go.Proofs.Ytgoacbbaiigpeaa.Gf
