/-
  The walk of gf.made: a matrix is made row by row, its elements are what the function value tells; whatever that function value is, as long as its call leaves old memory alone.
-/
import Derived.Test.YtjolnjckgoilpaaProg
import Derived.WalkKit
import Derived.WalkSpells
import Derived.Deep.RegionHeld3
import Derived.Deep.DrawnRows
import Derived.Shelf.Abstract
import Derived.Test.YtjolnjckgoilpaaWApart
namespace Go.Proofs.Ytjolnjckgoilpaa.Gf
open Go.RowKit
theorem run_make_rowN {P : Program} (t e : TypeId) (i : TypeInfo) (z : Value) (ht : P.underlying t = some (.slice e)) (hi : P.info? e = some i) (hz : i.zero = some z)
    (kl kc : IntKind) (n c : Nat) (hnc : n ≤ c) (hbytes : i.bytes * c ≤ 281474976710656) (h63 : c ≤ 9223372036854775807) (w : World) :
    (Instr.makeSlice t (.int kl (n : Int)) (.int kc (c : Int))).run P w = .ok (.slice (some ⟨w.heap.size, 0, none⟩) n c) (w.alloc (.cells (madeCells z.cells (c * i.size)) e)) := by
  have hb : (i.bytes : Int) * (c : Int) ≤ 281474976710656 := by
    have h : ((i.bytes * c : Nat) : Int) ≤ 281474976710656 := by omega
    rwa [Int.natCast_mul] at h
  have hr := run_make (P := P) w t e i z ht hi hz kl kc n c (by omega) (by omega) hb (by omega)
  simp only [Int.toNat_natCast] at hr
  exact hr
theorem info25 : (Try.prog.info? 25).map (fun i => (i.zero, i.size, i.bytes)) = some (some (.slice none 0 0), 1, 24) := by kernel_rfl
theorem info5 : (Try.prog.info? 5).map (fun i => (i.zero, i.size, i.bytes)) = some (some (.int .u8 0), 1, 1) := by kernel_rfl
theorem madeCells_one (z : Value) (n : Nat) : madeCells #[z] n = ((List.range n).map fun _ => z).toArray := by
  unfold madeCells
  apply Array.ext
  · simp
  · intro i h1 h2
    simp at h1
    simp [Nat.mod_one]

/-- Rows of a matrix that is being made: those below i are made. -/
def topCells (n c i : Nat) (b : Nat → Nat) : Array Value := ((List.range n).map fun j => if j < i then Value.slice (some ⟨b j, 0, none⟩) c c else .slice none 0 0).toArray
/-- A row that is being written: the first j elements are. -/
def rowCells (c j : Nat) (f : Nat → Int) : Array Value := ((List.range c).map fun k => Value.int .u8 (if k < j then f k else 0)).toArray
theorem topCells_at {n c i j : Nat} {b : Nat → Nat} (h : j < i) (hn : j < n) : (topCells n c i b)[j]? = some (.slice (some ⟨b j, 0, none⟩) c c) := by
  simp [topCells, hn, h]
theorem topCells_set {n c i : Nat} {b : Nat → Nat} (a : Nat) : (topCells n c i b).setIfInBounds i (.slice (some ⟨a, 0, none⟩) c c) = topCells n c (i + 1) (fun j => if j = i then a else b j) := by
  apply Array.ext
  · simp [topCells]
  · intro k h1 h2
    simp [topCells] at h1
    rw [Array.getElem_setIfInBounds]
    simp [topCells]
    by_cases e : i = k
    · subst e; simp
    · simp [e, Ne.symm e]
      by_cases h : k < i
      · rw [if_pos h, if_pos (by omega)]
      · rw [if_neg h, if_neg (by omega)]
    simpa [topCells] using h1
theorem rowCells_set {c j : Nat} {f : Nat → Int} : (rowCells c j f).setIfInBounds j (.int .u8 (f j)) = rowCells c (j + 1) f := by
  apply Array.ext
  · simp [rowCells]
  · intro k h1 h2
    simp [rowCells] at h1
    rw [Array.getElem_setIfInBounds]
    simp [rowCells]
    by_cases e : j = k
    · subst e; simp
    · simp [e]
      by_cases h : k < j
      · rw [if_pos h, if_pos (by omega)]
      · rw [if_neg h, if_neg (by omega)]
    simpa [rowCells] using h1
theorem mk40 (n : Nat) (hn : n ≤ 1000000) (w : World) :
    (Instr.makeSlice 46 (.int .i64 (n : Int)) (.int .i64 (n : Int))).run Try.prog w = .ok (.slice (some ⟨w.heap.size, 0, none⟩) n n) (w.alloc (.cells (topCells n 0 0 id) 25)) := by
  obtain ⟨i, hi, h⟩ := Option.map_eq_some_iff.1 info25
  simp only [Prod.mk.injEq] at h
  obtain ⟨h0, h1, h2⟩ := h
  have := run_make_rowN (P := Try.prog) 46 25 i (.slice none 0 0) Try.underlying46 hi h0 .i64 .i64 n n (Nat.le_refl _) (by rw [h2]; omega) (by omega) w
  rw [this, h1, Nat.mul_one]
  show Result.ok _ (w.alloc (.cells (madeCells #[_] n) 25)) = _
  rw [madeCells_one]
  simp [topCells]
theorem mk53 (n : Nat) (hn : n ≤ 1000000) (w : World) :
    (Instr.makeSlice 25 (.int .i64 (n : Int)) (.int .i64 (n : Int))).run Try.prog w = .ok (.slice (some ⟨w.heap.size, 0, none⟩) n n) (w.alloc (.cells (rowCells n 0 fun _ => 0) 5)) := by
  obtain ⟨i, hi, h⟩ := Option.map_eq_some_iff.1 info5
  simp only [Prod.mk.injEq] at h
  obtain ⟨h0, h1, h2⟩ := h
  have := run_make_rowN (P := Try.prog) 25 5 i (.int .u8 0) Try.underlying25 hi h0 .i64 .i64 n n (Nat.le_refl _) (by rw [h2]; omega) (by omega) w
  rw [this, h1, Nat.mul_one]
  show Result.ok _ (w.alloc (.cells (madeCells #[_] n) 5)) = _
  rw [madeCells_one]
  simp [rowCells]

structure Outer (w wr : World) (n c i : Nat) (b : Nat → Nat) (rw : Nat → Array Value) : Prop where
  below : Below w.heap.size w wr
  top : wr.heap[w.heap.size]? = some (.cells (topCells n c i b) 25 (0, 0))
  row : ∀ j, j < i → w.heap.size < b j ∧ wr.heap[b j]? = some (.cells (rw j) 5 (0, 0))
  ord : ∀ j k, j < k → k < i → b j < b k

theorem heap_lt {w : World} {g : Nat} {o : Obj} (h : w.heap[g]? = some o) : g < w.heap.size := (Array.getElem?_eq_some_iff.1 h).1
theorem Outer.start (w : World) (n c : Nat) (rw : Nat → Array Value) : Outer w (w.alloc (.cells (topCells n 0 0 id) 25)) n c 0 id rw := by
  refine ⟨(Below.refl _ _).alloc (Nat.le_refl _) _, ?_, fun j hj => by omega, fun j k _ hk => by omega⟩
  have e : topCells n 0 0 id = topCells n c 0 id := by simp [topCells]
  rw [e]
  exact heap_alloc_new w _
theorem Outer.lt {w wr : World} {n c i : Nat} {b : Nat → Nat} {rw : Nat → Array Value} (h : Outer w wr n c i b rw) : w.heap.size < wr.heap.size := heap_lt h.top
theorem Outer.step {w wr w2 : World} {n c i : Nat} {b : Nat → Nat} {rw : Nat → Array Value} (h : Outer w wr n c i b rw) (hb : Below wr.heap.size wr w2) : Outer w w2 n c i b rw := by
  refine ⟨h.below.trans (hb.mono h.below.size), (hb.block _ (heap_lt h.top)).trans h.top, fun j hj => ⟨(h.row j hj).1, (hb.block _ (heap_lt (h.row j hj).2)).trans (h.row j hj).2⟩, h.ord⟩
theorem blkset {w : World} {g : Nat} {t : TypeId} {cs : Array Value} (h : w.heap[g]? = some (.cells cs t (0, 0))) (i : Nat) (u : Value) : (w.setCell ⟨g, i, none⟩ u).heap[g]? = some (.cells (cs.setIfInBounds i u) t (0, 0)) := by
  simp [World.setCell, Array.getElem?_modify, h]
theorem blkfar {w : World} {g : Nat} {o : Obj} (h : w.heap[g]? = some o) {p : Addr} (hp : g ≠ p.block) (u : Value) : (w.setCell p u).heap[g]? = some o := (Below.heap_setCell w p u g hp).trans h
theorem blkalloc {w : World} {g : Nat} {o : Obj} (h : w.heap[g]? = some o) (o' : Obj) : (w.alloc o').heap[g]? = some o := (Below.heap_alloc w o' g (heap_lt h)).trans h
theorem size_setCell (w : World) (p : Addr) (u : Value) : (w.setCell p u).heap.size = w.heap.size := by simp [World.setCell]
theorem Outer.push {w wr : World} {n c k : Nat} {b : Nat → Nat} {rw : Nat → Array Value} (h : Outer w wr n c k b rw) (f : Nat → Int) :
    Outer w ((wr.setCell ⟨w.heap.size, k, none⟩ (.slice (some ⟨wr.heap.size, 0, none⟩) c c)).alloc (.cells (rowCells c 0 fun _ => 0) 5)) n c (k + 1) (fun j => if j = k then wr.heap.size else b j) (fun j => if j = k then rowCells c 0 f else rw j) := by
  have hs := size_setCell wr ⟨w.heap.size, k, none⟩ (.slice (some ⟨wr.heap.size, 0, none⟩) c c)
  refine ⟨(h.below.setCell (Nat.le_refl _) _).alloc (by rw [hs]; exact h.below.size) _, ?_, fun j hj => ?_, fun j l hj hl => ?_⟩
  · have := blkalloc (blkset h.top k (.slice (some ⟨wr.heap.size, 0, none⟩) c c)) (.cells (rowCells c 0 fun _ => 0) 5)
    rw [topCells_set] at this
    exact this
  · by_cases e : j = k
    · subst e
      rw [if_pos rfl, if_pos rfl]
      refine ⟨h.lt, ?_⟩
      have e2 : rowCells c 0 f = rowCells c 0 (fun _ => 0) := by simp [rowCells]
      rw [e2]
      have := heap_alloc_new (wr.setCell ⟨w.heap.size, j, none⟩ (.slice (some ⟨wr.heap.size, 0, none⟩) c c)) (.cells (rowCells c 0 fun _ => 0) 5)
      rwa [hs] at this
    · rw [if_neg e, if_neg e]
      obtain ⟨h1, h2⟩ := h.row j (by omega)
      exact ⟨h1, blkalloc (blkfar h2 (by show b j ≠ w.heap.size; omega) _) _⟩
  · show (if j = k then _ else b j) < (if l = k then _ else b l)
    rw [if_neg (by omega)]
    by_cases e : l = k
    · rw [if_pos e]
      exact heap_lt (h.row j (by omega)).2
    · rw [if_neg e]
      exact h.ord j l hj (by omega)
theorem Outer.put {w wr : World} {n c k : Nat} {b : Nat → Nat} {rw : Nat → Array Value} (h : Outer w wr n c (k + 1) b rw) (a : Nat) (u : Value) :
    Outer w (wr.setCell ⟨b k, a, none⟩ u) n c (k + 1) b (fun j => if j = k then (rw k).setIfInBounds a u else rw j) := by
  obtain ⟨h1, h2⟩ := h.row k (by omega)
  refine ⟨h.below.setCell (by show _ ≤ b k; omega) _, blkfar h.top (by show w.heap.size ≠ b k; omega) _, fun j hj => ?_, h.ord⟩
  obtain ⟨h3, h4⟩ := h.row j hj
  refine ⟨h3, ?_⟩
  by_cases e : j = k
  · subst e
    rw [if_pos rfl]
    exact blkset h4 a u
  · rw [if_neg e]
    have := h.ord j k (by omega) (by omega)
    exact blkfar h4 (by show b j ≠ b k; omega) _
theorem Outer.same {w wr : World} {n c i : Nat} {b b' : Nat → Nat} {rw rw' : Nat → Array Value} (h : Outer w wr n c i b rw) (e : ∀ j, j < i → b j = b' j ∧ rw j = rw' j) : Outer w wr n c i b' rw' := by
  refine ⟨h.below, ?_, fun j hj => by rw [← (e j hj).1, ← (e j hj).2]; exact h.row j hj, fun j k hj hk => by rw [← (e j (by omega)).1, ← (e k hk).1]; exact h.ord j k hj hk⟩
  rw [h.top]
  congr 2
  simp only [topCells]
  congr 1
  apply List.map_congr_left
  intro j _
  by_cases hj : j < i
  · rw [if_pos hj, if_pos hj, (e j hj).1]
  · rw [if_neg hj, if_neg hj]

theorem Outer.drew {w wr : World} {n c i : Nat} {b : Nat → Nat} {rw : Nat → Array Value} (h : Outer w wr n c i b rw) : Outer w wr.drew n c i b rw := ⟨h.below.drew, h.top, h.row, h.ord⟩
theorem frozen_of {w wr : World} {n c k G j : Nat} {b : Nat → Nat} {rw : Nat → Array Value} (h : Outer w wr n c (k + 1) b rw) (e : b k = G) : wr.frozen? ⟨G, j, none⟩ = false := by
  have := (h.row k (by omega)).2
  rw [e] at this
  simp [World.frozen?, this]
theorem cell_of {w wr : World} {n c k G j : Nat} {b : Nat → Nat} {rw : Nat → Array Value} (h : Outer w wr n c (k + 1) b rw) (e : b k = G) : wr.cell? ⟨G, j, none⟩ = (rw k)[j]? := by
  have := (h.row k (by omega)).2
  rw [e] at this
  exact cell_of_row wr G j _ 5 (0, 0) this
theorem cell_some {w wr : World} {n c k G j a : Nat} {b : Nat → Nat} {f : Nat → Int} {g : Nat → Array Value} (h : Outer w wr n c (k + 1) b (fun q => if q = k then rowCells c a f else g q)) (e : b k = G) (hj : j < c) : wr.cell? ⟨G, j, none⟩ = some (.int .u8 (if j < a then f j else 0)) := by
  rw [cell_of h e, if_pos rfl]
  simp [rowCells, hj]
theorem top_some {w wr : World} {n c k G : Nat} {b : Nat → Nat} {rw : Nat → Array Value} (h : Outer w wr n c (k + 1) b rw) (e : b k = G) (hk : k < n) : wr.cell? ⟨w.heap.size, k, none⟩ = some (.slice (some ⟨G, 0, none⟩) c c) := by
  rw [cell_of_row wr w.heap.size k _ 25 (0, 0) h.top, topCells_at (by omega) hk, e]
set_option maxHeartbeats 1000000 in
theorem made_calls (w : World) (n c : Nat) (g : Nat) (caps : Array Value) (elt : Nat → Nat → Int) (hn : n ≤ 255) (hc : c ≤ 255) (he : ∀ (args : Array Value) (w : World), (callFunc g args).run Try.prog w = .ok (.enter g args) w)
    (hf : ∀ i j : Nat, i < n → j < c → ∀ W : World, Below w.heap.size w W → Calls Try.prog g (#[.int .i64 i, .int .i64 j] ++ caps) W fun e W' => e = .returned (.int .u8 (elt i j)) ∧ Below W.heap.size W W') :
    Calls Try.prog 42 #[.int .i64 n, .int .i64 c, .func (.func g) #[] caps] w fun e w' => ∃ b, e = .returned (.slice (some ⟨w.heap.size, 0, none⟩) n n) ∧ Outer w w' n c n b (fun j => rowCells c c (elt j)) := by
  have hm40 := mk40 n (by omega)
  have hm53 := mk53 c (by omega)
  go_enter Try.func42, Try.ntmps42
  go_wp2
  go_loopw [14] (fun i wr => ∃ k b, k ≤ n ∧ i = .int .i64 (k : Nat) ∧ Outer w wr n c k b (fun j => rowCells c c (elt j))) (fun i _ => n - (intOf i).toNat)
  case atStart => exact ⟨0, id, Nat.zero_le _, rfl, Outer.start w n c _⟩
  case round =>
    obtain ⟨k, b, hk, rfl, hO⟩ := hrel
    by_cases hlt : k < n
    · have hcell : wr.cell? ⟨w.heap.size, k, none⟩ = some (.slice none 0 0) := by
        rw [cell_of_row wr w.heap.size k _ 25 (0, 0) hO.top]; simp [topCells, hlt]
      have hfr : wr.frozen? ⟨w.heap.size, k, none⟩ = false := by simp [World.frozen?, hO.top]
      have hsz : w.heap.size < wr.heap.size := hO.lt
      go_wp2
      have hO2 := hO.push (elt k)
      clear hcell hfr
      obtain ⟨G, hG⟩ : ∃ G, G = wr.heap.size := ⟨_, rfl⟩
      generalize ((wr.setCell { block := w.heap.size, off := k } (Value.slice (some { block := wr.heap.size, off := 0 }) c c)).alloc (Obj.cells (rowCells c 0 fun x => 0) 5)) = w1 at hO2 ⊢
      rw [← hG]
      rw [← hG] at hO2 hsz
      clear hG hO
      generalize hb' : (fun j => if j = k then G else b j) = b1 at hO2
      have hb1 : b1 k = G := by rw [← hb']; simp
      clear hb'
      have HB1 : Hid (b1 k = G) := hb1
      clear hb1
      go_loopw [27] (fun i wx => ∃ j : Nat, j ≤ c ∧ i = .int .i64 (j : Nat) ∧ Outer w wx n c (k + 1) b1 (fun q => if q = k then rowCells c j (elt k) else rowCells c c (elt q))) (fun i _ => c - (intOf i).toNat)
      case atStart => exact ⟨0, Nat.zero_le _, rfl, hO2⟩
      case round =>
        clear hO2
        obtain ⟨j, hj, rfl, hO⟩ := hrel
        by_cases hjc : j < c
        · have hcell : wr.cell? ⟨w.heap.size, k, none⟩ = some (.slice (some ⟨G, 0, none⟩) c c) := by
            rw [cell_of_row wr w.heap.size k _ 25 (0, 0) hO.top, topCells_at (by omega) hlt, HB1.out]
          go_wp2
          have q1 : (0 : Int) ≤ (k : Int) := by omega
          have q2 : (k : Int) < (n : Int) := by omega
          have q3 : (0 : Int) ≤ (j : Int) := by omega
          have q4 : (j : Int) < (c : Int) := by omega
          go_region_held3 (fun w' => w'.cell? ⟨w.heap.size, k, none⟩ = some (.slice (some ⟨G, 0, none⟩) c c)) (first | assumption | exact (World.cell?_setCell_other _ _ _ _ (by intro h_; injection h_; omega)).trans (by assumption)) (((refine (hf k j hlt hjc _ (by exact hO.below.drew)).mono ?_); rintro e w2 ⟨rfl, hb⟩; have hOx := hO.drew.step hb; have hcx := cell_some hOx HB1.out hjc; have hfr : w2.frozen? ⟨G, j, none⟩ = false := frozen_of hOx HB1.out; have hS2 := top_some hOx HB1.out hlt))
          have hO3 := (hOx.put j (.int .u8 (elt k j))).same (b' := b1) (rw' := fun q => if q = k then rowCells c (j + 1) (elt k) else rowCells c c (elt q)) (by
            intro q hq
            refine ⟨rfl, ?_⟩
            by_cases e : q = k
            · simp only [if_pos e, if_true]
              exact rowCells_set
            · simp only [if_neg e])
          rw [HB1.out] at hO3
          clear hOx hcx hfr hS2 hb hO hcell
          go_wp2
          go_roundw
          case rel => exact ⟨j + 1, by omega, by go_num, hO3⟩
          case measure => simp [intOf]; omega
        · obtain rfl : j = c := by omega
          go_wp2
          go_roundw
          case rel => exact ⟨k + 1, b1, by omega, by go_num, hO.same (fun q hq => ⟨rfl, by by_cases e : q = k <;> simp [e]⟩)⟩
          case measure => simp [intOf]; omega
    · obtain rfl : k = n := by omega
      go_wp2
      go_ret
      exact ⟨b, rfl, hO⟩

open Go.Proofs.YtjolnjckgoilpaaW.PrintWords
/-- The matrix that is made, as lists. -/
def matrix (n c : Nat) (elt : Nat → Nat → Int) : List (List Int) := (List.range n).map fun i => (List.range c).map fun j => elt i j
theorem rowCells_nums (c : Nat) (f : Nat → Int) : (rowCells c c f).toList = nums .u8 ((List.range c).map f) := by
  simp only [rowCells, nums, List.map_map]
  apply List.map_congr_left
  intro k hk
  have : k < c := by simpa using hk
  simp [this]
theorem Outer.owned {w wr : World} {n c : Nat} {b : Nat → Nat} {elt : Nat → Nat → Int} (hn : n ≤ 255) (hc : c ≤ 255) (h : Outer w wr n c n b (fun j => rowCells c c (elt j))) :
    Kd.S (Kd.slice 5 (Kd.int .u8)) 25 wr w.heap.size (fun _ => True) (.slice (some ⟨w.heap.size, 0, none⟩) n n) (matrix n c elt) := by
  have hinj : ∀ j k, j < n → k < n → b j = b k → j = k := fun j k hj hk e => by
    rcases Nat.lt_trichotomy j k with h1 | h1 | h1
    · have := h.ord j k h1 hk; omega
    · exact h1
    · have := h.ord k j h1 hj; omega
  refine ⟨fun k => ((List.range n).find? fun j => b j == k).getD 0, fun _ _ => trivial, (topCells n c n b).toList, ⟨?_, .inr ⟨w.heap.size, n, topCells n c n b, ?_, Nat.le_refl _, h.top, ?_, ?_, ?_, ?_⟩⟩, ?_, fun j p hj => ?_⟩
  · simp [topCells, matrix, Kd.tag, Kd.slice]
  · simp [matrix]
  · simp [matrix]
  · unfold maxLen; omega
  · simp [topCells, Kd.tag, Kd.slice]
  · rw [List.take_of_length_le (by simp [topCells, matrix, Kd.tag, Kd.slice])]
  · simp [topCells, matrix, Kd.tag, Kd.slice]
  · have hz : (matrix n c elt).zipIdx[j]? = some p := hj
    rw [List.getElem?_zipIdx] at hz
    obtain ⟨r, hr, rfl⟩ := Option.map_eq_some_iff.1 hz
    have hjn : j < n := by
      have := (List.getElem?_eq_some_iff.1 hr).1
      simpa [matrix] using this
    have hr2 : r = (List.range c).map (elt j) := by
      simp [matrix, hjn] at hr
      exact hr.symm
    subst hr2
    have hcs : (((topCells n c n b).toList.drop (j * 1)).take 1) = [.slice (some ⟨b j, 0, none⟩) c c] := by
      have hlen : j < (topCells n c n b).toList.length := by simp [topCells, hjn]
      rw [Nat.mul_one, List.drop_eq_getElem_cons hlen]
      simp [topCells, hjn]
    show ∃ v, (((topCells n c n b).toList.drop (j * 1)).take 1) = [v] ∧ _
    refine ⟨_, hcs, Kd.R_of_own ⟨?_, .inr ⟨b j, c, rowCells c c (elt j), ?_, ?_, (h.row j hjn).2, ?_, ?_, ?_, ?_⟩⟩ ?_⟩
    · simp [encs]
    · simp
    · have := (h.row j hjn).1; omega
    · simp
    · unfold maxLen; omega
    · simp [rowCells]
    · rw [List.take_of_length_le (by simp [rowCells]), rowCells_nums]
      rfl
    · intro k hk
      have hk2 : b j = k := by simpa [Value.ownBlock] using hk
      subst hk2
      refine ⟨⟨trivial, ?_⟩, ?_⟩
      · have := (h.row j hjn).1
        simp only [Value.ownBlock]
        intro e
        injection e with e
        omega
      · show (List.find? _ _).getD 0 = 0 + j
        have : (List.range n).find? (fun q => b q == b j) = some j := by
          rw [List.find?_eq_some_iff_getElem]
          refine ⟨by simp, j, by simpa using hjn, by simp, fun q hq => ?_⟩
          simp
          intro e
          have := hinj q j (by omega) hjn e
          omega
        rw [this]
        simp
end Go.Proofs.Ytjolnjckgoilpaa.Gf
