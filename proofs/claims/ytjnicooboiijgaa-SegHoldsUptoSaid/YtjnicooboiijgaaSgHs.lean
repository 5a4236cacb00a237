/-
  What flintlaw9.SegHolds has in hand: a writer, the rows told, the places, the stream.
-/
import Derived.Test.YtjnicooboiijgaaSgHp
import Derived.Test.YtjnicooboiijgaaSgHq
set_option linter.unusedVariables false
set_option linter.unusedSimpArgs false
namespace Go.Proofs.Ytjnicooboiijgaa.Sg
open Go.RowKit Go.Proofs.YtjnicooboiijgaaW.PrintWords Go.Proofs.YtjnicooboiijgaaW.PrintLast Go.Proofs.YtjnicooboiijgaaW.PrintMore Go.Proofs.Ytjnicooboiijgaa.PSg Go.Proofs.Ytjnicooboiijgaa.Gf Go.Proofs.Ytjnicooboiijgaa.Rs
theorem info3 : (Try.prog.info? 3).map (fun i => (i.zero, i.size, i.bytes)) = some (some (.int .i64 0), 1, 8) := by kernel_rfl
abbrev KI : Kd Int := Kd.int .i64
/-- A block of another type stands where a row grows. -/
theorem blk_over {W W1 : World} {b t : Nat} {cs : Array Value} {α : Type} {d : Kd α} {e base : Nat} {ok : Nat → Prop} {v : Value} {xs : List α} (h : W.heap[b]? = some (.cells cs t (0, 0))) (hv : d.R e W base ok v xs) (ht : ∀ q, q ∈ e :: d.E → q ≠ t) (hg : W.grownBy W1 v.ownBlock) : W1.heap[b]? = some (.cells cs t (0, 0)) := by
  refine (hg.block b (heap_lt h) fun e' => ?_).trans h
  obtain ⟨_, _, _, q, hq, cells, hc⟩ := (Kd.R_bound hv).1 b e'.symm
  rw [h] at hc
  obtain ⟨_, rfl⟩ : _ ∧ t = q := by simpa using hc
  exact ht _ hq rfl
structure St (w W : World) (g k p s seg size : Nat) (S R ats : List Int) (Ar : Option Addr) (nr cr : Nat) (sv tv av : Value) (hds : List Hd) (P : List (List (List Int))) : Prop where
  wr : Wr W g k p s seg size (.slice Ar nr cr)
  rest : KB.R 5 W w.heap.size (fun j => sv.ownBlock ≠ some j) (.slice Ar nr cr) R
  st : KB.R 5 W w.heap.size (fun _ => True) sv S
  at_ : KI.R 3 W w.heap.size (fun _ => True) av ats
  told : KH.R 51 W w.heap.size (fun _ => True) tv hds
  own : OwnS W w.heap.size sv.ownBlock hds P
  below : Below w.heap.size w W
  shape : W.heap[w.heap.size]? = some (.cells #[.int .i64 k, .int .i64 p, .int .i64 s] 23 (0, 0))
section
variable {w W W1 : World} {g k p s seg size : Nat} {S R ats : List Int} {Ar : Option Addr} {nr cr : Nat} {sv tv av : Value} {hds : List Hd} {P : List (List (List Int))}
theorem St.move (h : St w W g k p s seg size S R ats Ar nr cr sv tv av hds P) (hb : Below W.heap.size W W1) : St w W1 g k p s seg size S R ats Ar nr cr sv tv av hds P :=
  ⟨h.wr.below hb, Kd.R_below h.rest hb, Kd.R_below h.st hb, Kd.R_below h.at_ hb, Kd.R_below h.told hb, h.own.below hb, below_then h.below h.below.size hb, (hb.block _ (heap_lt h.shape)).trans h.shape⟩
theorem St.ne (h : St w W g k p s seg size S R ats Ar nr cr sv tv av hds P) : w.heap.size ≠ g := by
  intro e
  subst e
  have h1 := h.wr
  unfold Wr at h1
  rw [h.shape] at h1
  cases h1
/-- Another writer's state, as Add leaves it. -/
theorem St.add (h : St w W g k p s seg size S R ats Ar nr cr sv tv av hds P) {size' n2 c2 : Nat} {A2 : Option Addr} {R' : List Int} (hW : Wr W1 g k p s seg size' (.slice A2 n2 c2)) (hR : KB.R 5 W1 W.heap.size (fun _ => True) (.slice A2 n2 c2) R') (hb : BK w W g W1) : St w W1 g k p s seg size' S R' ats A2 n2 c2 sv tv av hds P :=
  ⟨hW, Kd.R_mono (Kd.R_lower (Kd.R_bound hR) h.below.size) (fun j hj e => by
      have h1 := (Kd.R_bound h.st).1 j e
      have := hj.2.1; have := h1.2.2.1; omega),
    keepW h.st (by simp [KB, Kd.int, Kd.scalar]) h.wr hb.keep, keepW h.at_ (by simp [Kd.int, Kd.scalar]) h.wr hb.keep, keepW h.told (by simp [KH, Kd.scalar]) h.wr hb.keep, h.own.keepW h.wr hb.keep, hb.below, hb.keep.blk h.shape h.ne (by simp)⟩
/-- A place more. -/
theorem St.atNew (h : St w W g k p s seg size S R ats Ar nr cr sv tv av hds P) {av1 : Value} {ats1 : List Int} (h1 : KI.R 3 W1 w.heap.size (fun _ => True) av1 ats1) (hb : Below w.heap.size w W1) (hg : W.grownBy W1 av.ownBlock) : St w W1 g k p s seg size S R ats1 Ar nr cr sv tv av1 hds P :=
  ⟨blk_over h.wr h.at_ (by simp [Kd.int, Kd.scalar]) hg, Kd.R_over h.rest h.at_ (by simp [KB, Kd.int, Kd.scalar]) hg, Kd.R_over h.st h.at_ (by simp [KB, Kd.int, Kd.scalar]) hg, h1, Kd.R_over h.told h.at_ (by simp [KH, Kd.scalar]) hg, h.own.over h.at_ (by decide) (by decide) hg, hb, blk_over h.shape h.at_ (by simp [Kd.int, Kd.scalar]) hg⟩
/-- Rows more. -/
theorem St.toldNew (h : St w W g k p s seg size S R ats Ar nr cr sv tv av hds P) {tv1 : Value} {hds1 : List Hd} {P1 : List (List (List Int))} (h1 : KH.R 51 W1 w.heap.size (fun _ => True) tv1 (hds ++ hds1)) (hO : OwnS W w.heap.size sv.ownBlock hds1 P1) (hb : Below w.heap.size w W1) (hg : W.grownBy W1 tv.ownBlock) : St w W1 g k p s seg size S R ats Ar nr cr sv tv1 av (hds ++ hds1) (P ++ P1) :=
  ⟨blk_over h.wr h.told (by simp [KH, Kd.scalar]) hg, Kd.R_over h.rest h.told (by simp [KB, Kd.int, Kd.scalar]) hg, Kd.R_over h.st h.told (by simp [KB, Kd.int, Kd.scalar]) hg, Kd.R_over h.at_ h.told (by simp [Kd.int, Kd.scalar]) hg, h1, (h.own.append hO).over h.told (by decide) (by decide) hg, hb, blk_over h.shape h.told (by simp [KH, Kd.scalar]) hg⟩
theorem own_grow (h : St w W g k p s seg size S R ats Ar nr cr sv tv av hds P) {sv1 : Value} (hg : W.grownBy W1 sv.ownBlock) (hat : sv1.ownBlock = sv.ownBlock ∨ ∃ b, sv1.ownBlock = some b ∧ W.heap.size ≤ b) {hds' : List Hd} {P' : List (List (List Int))} (hO : OwnS W w.heap.size sv.ownBlock hds' P') : OwnS W1 w.heap.size sv1.ownBlock hds' P' :=
  hO.grow hg (fun j e => by
    rcases hat with h2 | ⟨b, h2, h3⟩
    · exact .inl (h2 ▸ e)
    · rw [h2] at e; cases e; exact .inr h3) (fun j e => by
    obtain ⟨_, _, _, q, hq, cells, hc⟩ := (Kd.R_bound h.st).1 j e
    obtain rfl : q = 5 := by simpa [KB, Kd.int, Kd.scalar] using hq
    exact ⟨cells, hc⟩)
/-- The stream goes on. -/
theorem St.stNew (h : St w W g k p s seg size S R ats Ar nr cr sv tv av hds P) {sv1 : Value} {S1 : List Int} (h1 : KB.R 5 W1 w.heap.size (fun _ => True) sv1 S1) (hb : Below w.heap.size w W1) (hg : W.grownBy W1 sv.ownBlock) (hat : sv1.ownBlock = sv.ownBlock ∨ ∃ b, sv1.ownBlock = some b ∧ W.heap.size ≤ b) : St w W1 g k p s seg size S1 R ats Ar nr cr sv1 tv av hds P :=
  ⟨blk_over h.wr h.st (by simp [KB, Kd.int, Kd.scalar]) hg,
    Kd.R_mono (Kd.R_step (Kd.R_bound h.rest) fun j hj hlt => hg.block j hlt (fun e => hj.1 e.symm)) (fun j hj e => by
      rcases hat with h2 | ⟨b, h2, h3⟩
      · exact hj.1 (h2 ▸ e)
      · rw [h2] at e; cases e; have := hj.2.2.1; omega),
    h1, Kd.R_over h.at_ h.st (by simp [Kd.int, Kd.scalar]) hg, Kd.R_over h.told h.st (by simp [KH, Kd.scalar]) hg, own_grow h hg hat h.own, hb, blk_over h.shape h.st (by simp [KB, Kd.int, Kd.scalar]) hg⟩
end
/-- How many bytes fill a stream of n up. -/
def lack (n N : Nat) : Nat := if n % N = 0 then 0 else N - n % N
theorem filled_eq (S : List Int) (N : Nat) : filled S N = S ++ List.replicate (lack S.length N) 0 := by
  unfold filled lack
  by_cases h : S.length % N = 0
  · rw [if_pos h, if_pos h]; simp
  · rw [if_neg h, if_neg h]
theorem lack_mod {n N j : Nat} (hN : 0 < N) (hj : j < lack n N) : (n + j) % N ≠ 0 := by
  unfold lack at hj
  have h := Nat.div_add_mod n N
  have h2 := Nat.mod_lt n hN
  by_cases hz : n % N = 0
  · rw [if_pos hz] at hj; omega
  · rw [if_neg hz] at hj
    have e : n + j = N * (n / N) + (n % N + j) := by omega
    rw [e, Nat.mul_add_mod, Nat.mod_eq_of_lt (by omega)]
    omega
theorem lack_full {n N : Nat} (hN : 0 < N) : (n + lack n N) % N = 0 := by
  unfold lack
  have h := Nat.div_add_mod n N
  have h2 := Nat.mod_lt n hN
  by_cases hz : n % N = 0
  · rw [if_pos hz]; exact hz
  · rw [if_neg hz]
    have e : n + (N - n % N) = N * (n / N + 1) := by rw [Nat.mul_add]; omega
    rw [e, Nat.mul_mod_right]
theorem lack_le {n N : Nat} (hN : 0 < N) : lack n N ≤ N := by unfold lack; split <;> omega
end Go.Proofs.Ytjnicooboiijgaa.Sg
