/- Several texts of this session laid together: GfMath, GfMade. -/
import Derived.Test.YtjnicooboiijgaaProg
import Derived.WalkKit
import Derived.WalkSpells
import Derived.Deep.RegionHeld3
import Derived.Deep.DrawnRows
import Derived.Shelf.Abstract
import Derived.Test.YtjnicooboiijgaaWApart
section
/-
  The field of 256, on natural numbers: products, powers, logarithms; and its laws.
-/
namespace Go.Proofs.Ytjnicooboiijgaa.GfM

def xt (a : Nat) : Nat := if a < 128 then 2 * a else (2 * a - 256) ^^^ 29
def ml : Nat → Nat → Nat → Nat → Nat
  | 0, _, _, o => o
  | k + 1, a, b, o => ml k (xt a) (b / 2) (if b % 2 = 1 then o ^^^ a else o)
def M (a b : Nat) : Nat := ml 8 a b 0
def xts : Nat → Nat → Nat
  | 0, a => a
  | n + 1, a => xt (xts n a)
def g (n : Nat) : Nat := xts n 1

theorem xor_lt (a b : Nat) (ha : a < 256) (hb : b < 256) : a ^^^ b < 256 := Nat.xor_lt_two_pow (n := 8) ha hb
theorem xt_lt (a : Nat) (h : a < 256) : xt a < 256 := by
  unfold xt
  split
  · omega
  · exact xor_lt _ _ (by omega) (by omega)
theorem xt_form (a : Nat) (h : a < 256) : xt a = (2 * a) ^^^ (285 * (a / 128)) := by
  have : ∀ x : Fin 256, xt x.1 = (2 * x.1) ^^^ (285 * (x.1 / 128)) := by decide +kernel
  exact this ⟨a, h⟩
theorem div_bit (a : Nat) (h : a < 256) : a / 128 = 0 ∨ a / 128 = 1 := by omega
theorem xt_xor (a b : Nat) (ha : a < 256) (hb : b < 256) : xt (a ^^^ b) = xt a ^^^ xt b := by
  rw [xt_form _ ha, xt_form _ hb, xt_form _ (xor_lt _ _ ha hb)]
  have e1 : 2 * (a ^^^ b) = (2 * a) ^^^ (2 * b) := by
    have := Nat.shiftLeft_xor_distrib (a := a) (b := b) (i := 1)
    simpa [Nat.shiftLeft_eq, Nat.mul_comm] using this
  have e2 : (a ^^^ b) / 128 = (a / 128) ^^^ (b / 128) := by
    have := Nat.shiftRight_xor_distrib (a := a) (b := b) (i := 7)
    simp only [Nat.shiftRight_eq_div_pow] at this
    exact this
  rw [e1, e2]
  have e3 : 285 * ((a / 128) ^^^ (b / 128)) = (285 * (a / 128)) ^^^ (285 * (b / 128)) := by
    rcases div_bit a ha with h | h <;> rcases div_bit b hb with k | k <;> rw [h, k] <;> rfl
  rw [e3]
  ac_rfl
theorem ml_xor : ∀ (k a a' b o o' : Nat), a < 256 → a' < 256 → ml k (a ^^^ a') b (o ^^^ o') = ml k a b o ^^^ ml k a' b o'
  | 0, _, _, _, _, _, _, _ => rfl
  | k + 1, a, a', b, o, o', h, h' => by
    simp only [ml]
    rw [xt_xor a a' h h']
    by_cases e : b % 2 = 1
    · simp only [if_pos e]
      rw [show o ^^^ o' ^^^ (a ^^^ a') = (o ^^^ a) ^^^ (o' ^^^ a') by ac_rfl]
      exact ml_xor k _ _ _ _ _ (xt_lt _ h) (xt_lt _ h')
    · simp only [if_neg e]
      exact ml_xor k _ _ _ _ _ (xt_lt _ h) (xt_lt _ h')
theorem M_xor (a a' b : Nat) (h : a < 256) (h' : a' < 256) : M (a ^^^ a') b = M a b ^^^ M a' b := by
  have := ml_xor 8 a a' b 0 0 h h'
  rwa [Nat.xor_self] at this
theorem ml_lt : ∀ (k a b o : Nat), a < 256 → o < 256 → ml k a b o < 256
  | 0, _, _, _, _, ho => ho
  | k + 1, a, b, o, ha, ho => by
    simp only [ml]
    refine ml_lt k _ _ _ (xt_lt _ ha) ?_
    split
    · exact xor_lt _ _ ho ha
    · exact ho
theorem M_lt (a b : Nat) (ha : a < 256) : M a b < 256 := ml_lt 8 a b 0 ha (by omega)
/-- What holds of the bits, of 0 and of sums holds of all bytes. -/
theorem by_bits (P : Nat → Prop) (h0 : P 0) (hb : ∀ i : Fin 8, P (2 ^ i.1)) (hx : ∀ x y, x < 256 → y < 256 → P x → P y → P (x ^^^ y)) : ∀ a, a < 256 → P a := by
  have main : ∀ k, k ≤ 8 → ∀ a, a < 2 ^ k → P a := by
    intro k
    induction k with
    | zero => intro _ a ha; have : a = 0 := by simpa using ha
              rw [this]; exact h0
    | succ k ih =>
      intro hk a ha
      by_cases h : a < 2 ^ k
      · exact ih (by omega) a h
      · have e : a = 2 ^ k ^^^ (a - 2 ^ k) := by
          have h2 : a - 2 ^ k < 2 ^ k := by rw [Nat.pow_succ] at ha; omega
          have := Nat.two_pow_add_eq_or_of_lt h2 1
          rw [Nat.mul_one] at this
          have h3 : 2 ^ k ^^^ (a - 2 ^ k) = 2 ^ k ||| (a - 2 ^ k) := by
            apply Nat.eq_of_testBit_eq
            intro i
            rw [Nat.testBit_xor, Nat.testBit_or, Nat.testBit_two_pow]
            by_cases hi : k = i
            · subst hi
              rw [Nat.testBit_lt_two_pow h2]
              simp
            · simp [hi]
          rw [h3, ← this]
          omega
        have hp : 2 ^ k ≤ 2 ^ 7 := Nat.pow_le_pow_right (by omega) (by omega)
        have h2 : a - 2 ^ k < 2 ^ k := by rw [Nat.pow_succ] at ha; omega
        rw [e]
        exact hx _ _ (by omega) (by omega) (hb ⟨k, by omega⟩) (ih (by omega) _ h2)
  exact fun a ha => main 8 (Nat.le_refl _) a ha
theorem bits_ok : ∀ i : Fin 8, ∀ b : Fin 256, xt (M (2 ^ i.1) b.1) = M (2 ^ i.1) (xt b.1) := by decide +kernel
theorem zero_M : ∀ b : Fin 256, M 0 b.1 = 0 := by decide +kernel
theorem xt_M (a b : Nat) (ha : a < 256) (hb : b < 256) : xt (M a b) = M a (xt b) := by
  refine by_bits (fun a => xt (M a b) = M a (xt b)) ?_ (fun i => bits_ok i ⟨b, hb⟩) ?_ a ha
  · show xt (M 0 b) = M 0 (xt b)
    rw [zero_M ⟨b, hb⟩, zero_M ⟨xt b, xt_lt b hb⟩]; rfl
  · intro x y hx hy e1 e2
    show xt (M (x ^^^ y) b) = M (x ^^^ y) (xt b)
    rw [M_xor x y b hx hy, M_xor x y (xt b) hx hy, xt_xor _ _ (M_lt _ _ hx) (M_lt _ _ hy), e1, e2]
theorem M_one (a : Nat) (h : a < 256) : M a 1 = a := by
  have : ∀ x : Fin 256, M x.1 1 = x.1 := by decide +kernel
  exact this ⟨a, h⟩
theorem M_zero (a : Nat) (h : a < 256) : M a 0 = 0 := by
  have : ∀ x : Fin 256, M x.1 0 = 0 := by decide +kernel
  exact this ⟨a, h⟩
theorem zero_M' (a : Nat) (h : a < 256) : M 0 a = 0 := zero_M ⟨a, h⟩
theorem xts_lt (n a : Nat) (h : a < 256) : xts n a < 256 := by
  induction n with
  | zero => exact h
  | succ n ih => exact xt_lt _ ih
theorem g_lt (n : Nat) : g n < 256 := xts_lt n 1 (by omega)
theorem M_g (a n : Nat) (h : a < 256) : M a (g n) = xts n a := by
  induction n with
  | zero => exact M_one a h
  | succ n ih =>
    show M a (xt (g n)) = xt (xts n a)
    rw [← xt_M a (g n) h (g_lt n), ih]
theorem xts_add (m n a : Nat) : xts (m + n) a = xts m (xts n a) := by
  induction m with
  | zero => rw [Nat.zero_add]; rfl
  | succ m ih => rw [Nat.add_right_comm]; show xt _ = xt _; rw [ih]
theorem g_add (m n : Nat) : M (g m) (g n) = g (m + n) := by
  rw [M_g _ _ (g_lt m), Nat.add_comm, g, g, xts_add]
/-- The powers of 2, one behind the other. -/
def walk : Nat → Nat → List Nat
  | 0, _ => []
  | n + 1, a => a :: walk n (xt a)
theorem walk_at : ∀ (n a k : Nat), k < n → (walk n a)[k]? = some (xts k a)
  | n + 1, a, 0, _ => rfl
  | n + 1, a, k + 1, h => by
    show (walk n (xt a))[k]? = _
    rw [walk_at n (xt a) k (by omega)]
    show some (xts k (xts 1 a)) = _
    rw [← xts_add]
theorem walk_len : ∀ (n a : Nat), (walk n a).length = n
  | 0, _ => rfl
  | n + 1, a => by show (walk n (xt a)).length + 1 = n + 1; rw [walk_len n]
theorem log_table : ∀ a : Fin 256, a.1 = 0 ∨ (walk 255 1).contains a.1 = true := by decide +kernel
theorem has_log (a : Nat) (h : a < 256) (h0 : a ≠ 0) : ∃ n, n < 255 ∧ g n = a := by
  rcases log_table ⟨a, h⟩ with h1 | h1
  · exact absurd h1 h0
  · have hm : a ∈ walk 255 1 := by simpa using h1
    obtain ⟨k, hk⟩ := List.mem_iff_getElem?.1 hm
    have hl : k < 255 := by
      have := (List.getElem?_eq_some_iff.1 hk).1
      rwa [walk_len] at this
    rw [walk_at 255 1 k hl] at hk
    exact ⟨k, hl, Option.some.inj hk⟩
theorem M_comm (a b : Nat) (ha : a < 256) (hb : b < 256) : M a b = M b a := by
  by_cases h0 : a = 0
  · rw [h0, zero_M' b hb, M_zero b hb]
  by_cases k0 : b = 0
  · rw [k0, zero_M' a ha, M_zero a ha]
  obtain ⟨m, _, rfl⟩ := has_log a ha h0
  obtain ⟨n, _, rfl⟩ := has_log b hb k0
  rw [g_add, g_add, Nat.add_comm]
/-- Powers. -/
def P (a : Nat) : Nat → Nat
  | 0 => 1
  | n + 1 => M (P a n) a
theorem P_lt (a n : Nat) : P a n < 256 := by
  induction n with
  | zero => show 1 < 256; omega
  | succ n ih => exact M_lt _ _ ih
theorem P_g (m n : Nat) : P (g m) n = g (m * n) := by
  induction n with
  | zero => rfl
  | succ n ih => show M (P (g m) n) (g m) = _; rw [ih, g_add, Nat.mul_succ]
end Go.Proofs.Ytjnicooboiijgaa.GfM
end

section
/-
  The walk of gf.made: a matrix is made row by row, its elements are what the function value tells; whatever that function value is, as long as its call leaves old memory alone.
-/
namespace Go.Proofs.Ytjnicooboiijgaa.Gf
open Go.RowKit
theorem run_make_rowN {P : Program} (t e : TypeId) (i : TypeInfo) (z : Value) (ht : P.underlying t = some (.slice e)) (hi : P.info? e = some i) (hz : i.zero = some z)
    (kl kc : IntKind) (n c : Nat) (hnc : n ≤ c) (hbytes : i.bytes * c ≤ 281474976710656) (h63 : c ≤ 9223372036854775807) (w : World) :
    (Instr.makeSlice t (.int kl (n : Int)) (.int kc (c : Int))).run P w = .ok (.slice (some ⟨w.heap.size, 0, none⟩) n c) (w.alloc (.cells (madeCells z.cells (c * i.size)) e)) := by
  have hb : (i.bytes : Int) * (c : Int) ≤ 281474976710656 := by
    have h : ((i.bytes * c : Nat) : Int) ≤ 281474976710656 := by omega
    rwa [Int.natCast_mul] at h
  have hr := run_make (P := P) w t e i z ht hi hz kl kc n c (by omega) (by omega) hb (by omega)
  simp only [Int.toNat_natCast] at hr
  exact hr
theorem info37 : (Try.prog.info? 37).map (fun i => (i.zero, i.size, i.bytes)) = some (some (.slice none 0 0), 1, 24) := by kernel_rfl
theorem info5 : (Try.prog.info? 5).map (fun i => (i.zero, i.size, i.bytes)) = some (some (.int .u8 0), 1, 1) := by kernel_rfl
theorem madeCells_one (z : Value) (n : Nat) : madeCells #[z] n = ((List.range n).map fun _ => z).toArray := by
  unfold madeCells
  apply Array.ext
  · simp
  · intro i h1 h2
    simp at h1
    simp [Nat.mod_one]

/-- Rows of a matrix that is being made: those below i are made. -/
def topCells (n c i : Nat) (b : Nat → Nat) : Array Value := ((List.range n).map fun j => if j < i then Value.slice (some ⟨b j, 0, none⟩) c c else .slice none 0 0).toArray
/-- A row that is being written: the first j elements are. -/
def rowCells (c j : Nat) (f : Nat → Int) : Array Value := ((List.range c).map fun k => Value.int .u8 (if k < j then f k else 0)).toArray
theorem topCells_at {n c i j : Nat} {b : Nat → Nat} (h : j < i) (hn : j < n) : (topCells n c i b)[j]? = some (.slice (some ⟨b j, 0, none⟩) c c) := by
  simp [topCells, hn, h]
theorem topCells_set {n c i : Nat} {b : Nat → Nat} (a : Nat) : (topCells n c i b).setIfInBounds i (.slice (some ⟨a, 0, none⟩) c c) = topCells n c (i + 1) (fun j => if j = i then a else b j) := by
  apply Array.ext
  · simp [topCells]
  · intro k h1 h2
    simp [topCells] at h1
    rw [Array.getElem_setIfInBounds]
    simp [topCells]
    by_cases e : i = k
    · subst e; simp
    · simp [e, Ne.symm e]
      by_cases h : k < i
      · rw [if_pos h, if_pos (by omega)]
      · rw [if_neg h, if_neg (by omega)]
    simpa [topCells] using h1
theorem rowCells_set {c j : Nat} {f : Nat → Int} : (rowCells c j f).setIfInBounds j (.int .u8 (f j)) = rowCells c (j + 1) f := by
  apply Array.ext
  · simp [rowCells]
  · intro k h1 h2
    simp [rowCells] at h1
    rw [Array.getElem_setIfInBounds]
    simp [rowCells]
    by_cases e : j = k
    · subst e; simp
    · simp [e]
      by_cases h : k < j
      · rw [if_pos h, if_pos (by omega)]
      · rw [if_neg h, if_neg (by omega)]
    simpa [rowCells] using h1
theorem mk40 (n : Nat) (hn : n ≤ 1000000) (w : World) :
    (Instr.makeSlice 94 (.int .i64 (n : Int)) (.int .i64 (n : Int))).run Try.prog w = .ok (.slice (some ⟨w.heap.size, 0, none⟩) n n) (w.alloc (.cells (topCells n 0 0 id) 37)) := by
  obtain ⟨i, hi, h⟩ := Option.map_eq_some_iff.1 info37
  simp only [Prod.mk.injEq] at h
  obtain ⟨h0, h1, h2⟩ := h
  have := run_make_rowN (P := Try.prog) 94 37 i (.slice none 0 0) Try.underlying94 hi h0 .i64 .i64 n n (Nat.le_refl _) (by rw [h2]; omega) (by omega) w
  rw [this, h1, Nat.mul_one]
  show Result.ok _ (w.alloc (.cells (madeCells #[_] n) 37)) = _
  rw [madeCells_one]
  simp [topCells]
theorem mk53 (n : Nat) (hn : n ≤ 1000000) (w : World) :
    (Instr.makeSlice 37 (.int .i64 (n : Int)) (.int .i64 (n : Int))).run Try.prog w = .ok (.slice (some ⟨w.heap.size, 0, none⟩) n n) (w.alloc (.cells (rowCells n 0 fun _ => 0) 5)) := by
  obtain ⟨i, hi, h⟩ := Option.map_eq_some_iff.1 info5
  simp only [Prod.mk.injEq] at h
  obtain ⟨h0, h1, h2⟩ := h
  have := run_make_rowN (P := Try.prog) 37 5 i (.int .u8 0) Try.underlying37 hi h0 .i64 .i64 n n (Nat.le_refl _) (by rw [h2]; omega) (by omega) w
  rw [this, h1, Nat.mul_one]
  show Result.ok _ (w.alloc (.cells (madeCells #[_] n) 5)) = _
  rw [madeCells_one]
  simp [rowCells]

structure Outer (w wr : World) (n c i : Nat) (b : Nat → Nat) (rw : Nat → Array Value) : Prop where
  below : Below w.heap.size w wr
  top : wr.heap[w.heap.size]? = some (.cells (topCells n c i b) 37 (0, 0))
  row : ∀ j, j < i → w.heap.size < b j ∧ wr.heap[b j]? = some (.cells (rw j) 5 (0, 0))
  ord : ∀ j k, j < k → k < i → b j < b k

theorem heap_lt {w : World} {g : Nat} {o : Obj} (h : w.heap[g]? = some o) : g < w.heap.size := (Array.getElem?_eq_some_iff.1 h).1
theorem Outer.start (w : World) (n c : Nat) (rw : Nat → Array Value) : Outer w (w.alloc (.cells (topCells n 0 0 id) 37)) n c 0 id rw := by
  refine ⟨(Below.refl _ _).alloc (Nat.le_refl _) _, ?_, fun j hj => by omega, fun j k _ hk => by omega⟩
  have e : topCells n 0 0 id = topCells n c 0 id := by simp [topCells]
  rw [e]
  exact heap_alloc_new w _
theorem Outer.lt {w wr : World} {n c i : Nat} {b : Nat → Nat} {rw : Nat → Array Value} (h : Outer w wr n c i b rw) : w.heap.size < wr.heap.size := heap_lt h.top
theorem Outer.step {w wr w2 : World} {n c i : Nat} {b : Nat → Nat} {rw : Nat → Array Value} (h : Outer w wr n c i b rw) (hb : Below wr.heap.size wr w2) : Outer w w2 n c i b rw := by
  refine ⟨h.below.trans (hb.mono h.below.size), (hb.block _ (heap_lt h.top)).trans h.top, fun j hj => ⟨(h.row j hj).1, (hb.block _ (heap_lt (h.row j hj).2)).trans (h.row j hj).2⟩, h.ord⟩
theorem blkset {w : World} {g : Nat} {t : TypeId} {cs : Array Value} (h : w.heap[g]? = some (.cells cs t (0, 0))) (i : Nat) (u : Value) : (w.setCell ⟨g, i, none⟩ u).heap[g]? = some (.cells (cs.setIfInBounds i u) t (0, 0)) := by
  simp [World.setCell, Array.getElem?_modify, h]
theorem blkfar {w : World} {g : Nat} {o : Obj} (h : w.heap[g]? = some o) {p : Addr} (hp : g ≠ p.block) (u : Value) : (w.setCell p u).heap[g]? = some o := (Below.heap_setCell w p u g hp).trans h
theorem blkalloc {w : World} {g : Nat} {o : Obj} (h : w.heap[g]? = some o) (o' : Obj) : (w.alloc o').heap[g]? = some o := (Below.heap_alloc w o' g (heap_lt h)).trans h
theorem size_setCell (w : World) (p : Addr) (u : Value) : (w.setCell p u).heap.size = w.heap.size := by simp [World.setCell]
theorem Outer.push {w wr : World} {n c k : Nat} {b : Nat → Nat} {rw : Nat → Array Value} (h : Outer w wr n c k b rw) (f : Nat → Int) :
    Outer w ((wr.setCell ⟨w.heap.size, k, none⟩ (.slice (some ⟨wr.heap.size, 0, none⟩) c c)).alloc (.cells (rowCells c 0 fun _ => 0) 5)) n c (k + 1) (fun j => if j = k then wr.heap.size else b j) (fun j => if j = k then rowCells c 0 f else rw j) := by
  have hs := size_setCell wr ⟨w.heap.size, k, none⟩ (.slice (some ⟨wr.heap.size, 0, none⟩) c c)
  refine ⟨(h.below.setCell (Nat.le_refl _) _).alloc (by rw [hs]; exact h.below.size) _, ?_, fun j hj => ?_, fun j l hj hl => ?_⟩
  · have := blkalloc (blkset h.top k (.slice (some ⟨wr.heap.size, 0, none⟩) c c)) (.cells (rowCells c 0 fun _ => 0) 5)
    rw [topCells_set] at this
    exact this
  · by_cases e : j = k
    · subst e
      rw [if_pos rfl, if_pos rfl]
      refine ⟨h.lt, ?_⟩
      have e2 : rowCells c 0 f = rowCells c 0 (fun _ => 0) := by simp [rowCells]
      rw [e2]
      have := heap_alloc_new (wr.setCell ⟨w.heap.size, j, none⟩ (.slice (some ⟨wr.heap.size, 0, none⟩) c c)) (.cells (rowCells c 0 fun _ => 0) 5)
      rwa [hs] at this
    · rw [if_neg e, if_neg e]
      obtain ⟨h1, h2⟩ := h.row j (by omega)
      exact ⟨h1, blkalloc (blkfar h2 (by show b j ≠ w.heap.size; omega) _) _⟩
  · show (if j = k then _ else b j) < (if l = k then _ else b l)
    rw [if_neg (by omega)]
    by_cases e : l = k
    · rw [if_pos e]
      exact heap_lt (h.row j (by omega)).2
    · rw [if_neg e]
      exact h.ord j l hj (by omega)
theorem Outer.put {w wr : World} {n c k : Nat} {b : Nat → Nat} {rw : Nat → Array Value} (h : Outer w wr n c (k + 1) b rw) (a : Nat) (u : Value) :
    Outer w (wr.setCell ⟨b k, a, none⟩ u) n c (k + 1) b (fun j => if j = k then (rw k).setIfInBounds a u else rw j) := by
  obtain ⟨h1, h2⟩ := h.row k (by omega)
  refine ⟨h.below.setCell (by show _ ≤ b k; omega) _, blkfar h.top (by show w.heap.size ≠ b k; omega) _, fun j hj => ?_, h.ord⟩
  obtain ⟨h3, h4⟩ := h.row j hj
  refine ⟨h3, ?_⟩
  by_cases e : j = k
  · subst e
    rw [if_pos rfl]
    exact blkset h4 a u
  · rw [if_neg e]
    have := h.ord j k (by omega) (by omega)
    exact blkfar h4 (by show b j ≠ b k; omega) _
theorem Outer.same {w wr : World} {n c i : Nat} {b b' : Nat → Nat} {rw rw' : Nat → Array Value} (h : Outer w wr n c i b rw) (e : ∀ j, j < i → b j = b' j ∧ rw j = rw' j) : Outer w wr n c i b' rw' := by
  refine ⟨h.below, ?_, fun j hj => by rw [← (e j hj).1, ← (e j hj).2]; exact h.row j hj, fun j k hj hk => by rw [← (e j (by omega)).1, ← (e k hk).1]; exact h.ord j k hj hk⟩
  rw [h.top]
  congr 2
  simp only [topCells]
  congr 1
  apply List.map_congr_left
  intro j _
  by_cases hj : j < i
  · rw [if_pos hj, if_pos hj, (e j hj).1]
  · rw [if_neg hj, if_neg hj]

theorem Outer.drew {w wr : World} {n c i : Nat} {b : Nat → Nat} {rw : Nat → Array Value} (h : Outer w wr n c i b rw) : Outer w wr.drew n c i b rw := ⟨h.below.drew, h.top, h.row, h.ord⟩
theorem frozen_of {w wr : World} {n c k G j : Nat} {b : Nat → Nat} {rw : Nat → Array Value} (h : Outer w wr n c (k + 1) b rw) (e : b k = G) : wr.frozen? ⟨G, j, none⟩ = false := by
  have := (h.row k (by omega)).2
  rw [e] at this
  simp [World.frozen?, this]
theorem cell_of {w wr : World} {n c k G j : Nat} {b : Nat → Nat} {rw : Nat → Array Value} (h : Outer w wr n c (k + 1) b rw) (e : b k = G) : wr.cell? ⟨G, j, none⟩ = (rw k)[j]? := by
  have := (h.row k (by omega)).2
  rw [e] at this
  exact cell_of_row wr G j _ 5 (0, 0) this
theorem cell_some {w wr : World} {n c k G j a : Nat} {b : Nat → Nat} {f : Nat → Int} {g : Nat → Array Value} (h : Outer w wr n c (k + 1) b (fun q => if q = k then rowCells c a f else g q)) (e : b k = G) (hj : j < c) : wr.cell? ⟨G, j, none⟩ = some (.int .u8 (if j < a then f j else 0)) := by
  rw [cell_of h e, if_pos rfl]
  simp [rowCells, hj]
theorem top_some {w wr : World} {n c k G : Nat} {b : Nat → Nat} {rw : Nat → Array Value} (h : Outer w wr n c (k + 1) b rw) (e : b k = G) (hk : k < n) : wr.cell? ⟨w.heap.size, k, none⟩ = some (.slice (some ⟨G, 0, none⟩) c c) := by
  rw [cell_of_row wr w.heap.size k _ 37 (0, 0) h.top, topCells_at (by omega) hk, e]
set_option maxHeartbeats 1000000 in
theorem made_calls (w : World) (n c : Nat) (g : Nat) (caps : Array Value) (elt : Nat → Nat → Int) (hn : n ≤ 255) (hc : c ≤ 255) (he : ∀ (args : Array Value) (w : World), (callFunc g args).run Try.prog w = .ok (.enter g args) w)
    (hf : ∀ i j : Nat, i < n → j < c → ∀ W : World, Below w.heap.size w W → Calls Try.prog g (#[.int .i64 i, .int .i64 j] ++ caps) W fun e W' => e = .returned (.int .u8 (elt i j)) ∧ Below W.heap.size W W') :
    Calls Try.prog 68 #[.int .i64 n, .int .i64 c, .func (.func g) #[] caps] w fun e w' => ∃ b, e = .returned (.slice (some ⟨w.heap.size, 0, none⟩) n n) ∧ Outer w w' n c n b (fun j => rowCells c c (elt j)) := by
  have hm40 := mk40 n (by omega)
  have hm53 := mk53 c (by omega)
  go_enter Try.func68, Try.ntmps68
  go_wp2
  go_loopw [14] (fun i wr => ∃ k b, k ≤ n ∧ i = .int .i64 (k : Nat) ∧ Outer w wr n c k b (fun j => rowCells c c (elt j))) (fun i _ => n - (intOf i).toNat)
  case atStart => exact ⟨0, id, Nat.zero_le _, rfl, Outer.start w n c _⟩
  case round =>
    obtain ⟨k, b, hk, rfl, hO⟩ := hrel
    by_cases hlt : k < n
    · have hcell : wr.cell? ⟨w.heap.size, k, none⟩ = some (.slice none 0 0) := by
        rw [cell_of_row wr w.heap.size k _ 37 (0, 0) hO.top]; simp [topCells, hlt]
      have hfr : wr.frozen? ⟨w.heap.size, k, none⟩ = false := by simp [World.frozen?, hO.top]
      have hsz : w.heap.size < wr.heap.size := hO.lt
      go_wp2
      have hO2 := hO.push (elt k)
      clear hcell hfr
      obtain ⟨G, hG⟩ : ∃ G, G = wr.heap.size := ⟨_, rfl⟩
      generalize ((wr.setCell { block := w.heap.size, off := k } (Value.slice (some { block := wr.heap.size, off := 0 }) c c)).alloc (Obj.cells (rowCells c 0 fun x => 0) 5)) = w1 at hO2 ⊢
      rw [← hG]
      rw [← hG] at hO2 hsz
      clear hG hO
      generalize hb' : (fun j => if j = k then G else b j) = b1 at hO2
      have hb1 : b1 k = G := by rw [← hb']; simp
      clear hb'
      have HB1 : Hid (b1 k = G) := hb1
      clear hb1
      go_loopw [27] (fun i wx => ∃ j : Nat, j ≤ c ∧ i = .int .i64 (j : Nat) ∧ Outer w wx n c (k + 1) b1 (fun q => if q = k then rowCells c j (elt k) else rowCells c c (elt q))) (fun i _ => c - (intOf i).toNat)
      case atStart => exact ⟨0, Nat.zero_le _, rfl, hO2⟩
      case round =>
        clear hO2
        obtain ⟨j, hj, rfl, hO⟩ := hrel
        by_cases hjc : j < c
        · have hcell : wr.cell? ⟨w.heap.size, k, none⟩ = some (.slice (some ⟨G, 0, none⟩) c c) := by
            rw [cell_of_row wr w.heap.size k _ 37 (0, 0) hO.top, topCells_at (by omega) hlt, HB1.out]
          go_wp2
          have q1 : (0 : Int) ≤ (k : Int) := by omega
          have q2 : (k : Int) < (n : Int) := by omega
          have q3 : (0 : Int) ≤ (j : Int) := by omega
          have q4 : (j : Int) < (c : Int) := by omega
          go_region_held3 (fun w' => w'.cell? ⟨w.heap.size, k, none⟩ = some (.slice (some ⟨G, 0, none⟩) c c)) (first | assumption | exact (World.cell?_setCell_other _ _ _ _ (by intro h_; injection h_; omega)).trans (by assumption)) (((refine (hf k j hlt hjc _ (by exact hO.below.drew)).mono ?_); rintro e w2 ⟨rfl, hb⟩; have hOx := hO.drew.step hb; have hcx := cell_some hOx HB1.out hjc; have hfr : w2.frozen? ⟨G, j, none⟩ = false := frozen_of hOx HB1.out; have hS2 := top_some hOx HB1.out hlt))
          have hO3 := (hOx.put j (.int .u8 (elt k j))).same (b' := b1) (rw' := fun q => if q = k then rowCells c (j + 1) (elt k) else rowCells c c (elt q)) (by
            intro q hq
            refine ⟨rfl, ?_⟩
            by_cases e : q = k
            · simp only [if_pos e, if_true]
              exact rowCells_set
            · simp only [if_neg e])
          rw [HB1.out] at hO3
          clear hOx hcx hfr hS2 hb hO hcell
          go_wp2
          go_roundw
          case rel => exact ⟨j + 1, by omega, by go_num, hO3⟩
          case measure => simp [intOf]; omega
        · obtain rfl : j = c := by omega
          go_wp2
          go_roundw
          case rel => exact ⟨k + 1, b1, by omega, by go_num, hO.same (fun q hq => ⟨rfl, by by_cases e : q = k <;> simp [e]⟩)⟩
          case measure => simp [intOf]; omega
    · obtain rfl : k = n := by omega
      go_wp2
      go_ret
      exact ⟨b, rfl, hO⟩

open Go.Proofs.YtjnicooboiijgaaW.PrintWords
/-- The matrix that is made, as lists. -/
def matrix (n c : Nat) (elt : Nat → Nat → Int) : List (List Int) := (List.range n).map fun i => (List.range c).map fun j => elt i j
theorem rowCells_nums (c : Nat) (f : Nat → Int) : (rowCells c c f).toList = nums .u8 ((List.range c).map f) := by
  simp only [rowCells, nums, List.map_map]
  apply List.map_congr_left
  intro k hk
  have : k < c := by simpa using hk
  simp [this]
theorem Outer.owned {w wr : World} {n c : Nat} {b : Nat → Nat} {elt : Nat → Nat → Int} (hn : n ≤ 255) (hc : c ≤ 255) (h : Outer w wr n c n b (fun j => rowCells c c (elt j))) :
    Kd.S (Kd.slice 5 (Kd.int .u8)) 37 wr w.heap.size (fun _ => True) (.slice (some ⟨w.heap.size, 0, none⟩) n n) (matrix n c elt) := by
  have hinj : ∀ j k, j < n → k < n → b j = b k → j = k := fun j k hj hk e => by
    rcases Nat.lt_trichotomy j k with h1 | h1 | h1
    · have := h.ord j k h1 hk; omega
    · exact h1
    · have := h.ord k j h1 hj; omega
  refine ⟨fun k => ((List.range n).find? fun j => b j == k).getD 0, fun _ _ => trivial, (topCells n c n b).toList, ⟨?_, .inr ⟨w.heap.size, n, topCells n c n b, ?_, Nat.le_refl _, h.top, ?_, ?_, ?_, ?_⟩⟩, ?_, fun j p hj => ?_⟩
  · simp [topCells, matrix, Kd.tag, Kd.slice]
  · simp [matrix]
  · simp [matrix]
  · unfold maxLen; omega
  · simp [topCells, Kd.tag, Kd.slice]
  · rw [List.take_of_length_le (by simp [topCells, matrix, Kd.tag, Kd.slice])]
  · simp [topCells, matrix, Kd.tag, Kd.slice]
  · have hz : (matrix n c elt).zipIdx[j]? = some p := hj
    rw [List.getElem?_zipIdx] at hz
    obtain ⟨r, hr, rfl⟩ := Option.map_eq_some_iff.1 hz
    have hjn : j < n := by
      have := (List.getElem?_eq_some_iff.1 hr).1
      simpa [matrix] using this
    have hr2 : r = (List.range c).map (elt j) := by
      simp [matrix, hjn] at hr
      exact hr.symm
    subst hr2
    have hcs : (((topCells n c n b).toList.drop (j * 1)).take 1) = [.slice (some ⟨b j, 0, none⟩) c c] := by
      have hlen : j < (topCells n c n b).toList.length := by simp [topCells, hjn]
      rw [Nat.mul_one, List.drop_eq_getElem_cons hlen]
      simp [topCells, hjn]
    show ∃ v, (((topCells n c n b).toList.drop (j * 1)).take 1) = [v] ∧ _
    refine ⟨_, hcs, Kd.R_of_own ⟨?_, .inr ⟨b j, c, rowCells c c (elt j), ?_, ?_, (h.row j hjn).2, ?_, ?_, ?_, ?_⟩⟩ ?_⟩
    · simp [encs]
    · simp
    · have := (h.row j hjn).1; omega
    · simp
    · unfold maxLen; omega
    · simp [rowCells]
    · rw [List.take_of_length_le (by simp [rowCells]), rowCells_nums]
      rfl
    · intro k hk
      have hk2 : b j = k := by simpa [Value.ownBlock] using hk
      subst hk2
      refine ⟨⟨trivial, ?_⟩, ?_⟩
      · have := (h.row j hjn).1
        simp only [Value.ownBlock]
        intro e
        injection e with e
        omega
      · show (List.find? _ _).getD 0 = 0 + j
        have : (List.range n).find? (fun q => b q == b j) = some j := by
          rw [List.find?_eq_some_iff_getElem]
          refine ⟨by simp, j, by simpa using hjn, by simp, fun q hq => ?_⟩
          simp
          intro e
          have := hinj q j (by omega) hjn e
          omega
        rw [this]
        simp
end Go.Proofs.Ytjnicooboiijgaa.Gf
end
