/-
  A message taken in, block by block; the digest's state.
-/
import Derived.Test.YtcagmiglgpjcjaaShaMix
import Derived.Test.YtcagmiglgpjcjaaShaSl
set_option linter.unusedVariables false
set_option linter.unusedSimpArgs false
namespace Go.Proofs.Ytcagmiglgpjcjaa.Sh
open Go.RowKit Go.Proofs.YtcagmiglgpjcjaaW.PrintWords Go.Proofs.YtcagmiglgpjcjaaW.PrintLast Go.Proofs.YtcagmiglgpjcjaaW.PrintMore Go.Proofs.Ytcagmiglgpjcjaa.PSa

/-- The first j blocks of a message, taken in. -/
def absN (K h l : List Int) : Nat → List Int
  | 0 => h
  | j + 1 => comp (absN K h l j) K ((l.drop (64 * j)).take 64)
theorem comp_length (h K m : List Int) : (comp h K m).length = h.length := As_length _ _ _
theorem absN_length (K h l : List Int) : ∀ j, (absN K h l j).length = h.length
  | 0 => rfl
  | j + 1 => by rw [absN, comp_length, absN_length K h l j]
theorem absN_append (K h l m : List Int) : ∀ j, 64 * j ≤ l.length → absN K h (l ++ m) j = absN K h l j
  | 0, _ => rfl
  | j + 1, hj => by
    rw [absN, absN, absN_append K h l m j (by omega)]
    congr 1
    rw [List.drop_append_of_le_length (by omega), List.take_append_of_le_length (by rw [List.length_drop]; omega)]
/-- What is taken in on top of q blocks. -/
theorem absN_add (K h l : List Int) (q : Nat) : ∀ j, absN K (absN K h l q) (l.drop (64 * q)) j = absN K h l (q + j)
  | 0 => rfl
  | j + 1 => by
    rw [absN, absN_add K h l q j, ← Nat.add_assoc, absN, List.drop_drop, show 64 * q + 64 * j = 64 * (q + j) by omega]
/-- A digest's words and its rest behind a message. -/
def dH (t : List Int) (h0 : List Int) : List Int := absN Kc h0 t (t.length / 64)
def dR (t : List Int) : List Int := t.drop (64 * (t.length / 64))
theorem dR_length (t : List Int) : (dR t).length = t.length % 64 := by rw [dR, List.length_drop]; omega
theorem drop_join (t m : List Int) : dR t ++ m = (t ++ m).drop (64 * (t.length / 64)) := by
  rw [dR, List.drop_append_of_le_length (by omega)]
theorem dH_on (t m h0 : List Int) (j : Nat) : absN Kc (dH t h0) (dR t ++ m) j = absN Kc h0 (t ++ m) (t.length / 64 + j) := by
  rw [drop_join, ← absN_add, dH, absN_append _ _ _ _ _ (by omega)]
theorem len_join (t m : List Int) : (dR t ++ m).length / 64 + t.length / 64 = (t ++ m).length / 64 := by
  rw [List.length_append, dR_length, List.length_append]; omega

/-- The state of a digest in memory: the words, the rest and the number. -/
structure Dg (w : World) (g : Nat) (h r : List Int) (n : Int) : Prop where
  out : ∃ v, w.heap[g]? = some (.cells (dig h v (.int .i64 n)) 56 (0, 0)) ∧ Kd.R KBs 5 w 0 (fun _ => True) v r
theorem Dg.lt {w : World} {g : Nat} {h r : List Int} {n : Int} (H : Dg w g h r n) : g < w.heap.size := by
  obtain ⟨v, h1, _⟩ := H.out
  exact heap_lt h1
theorem Dg.drewN {w : World} {g : Nat} {h r : List Int} {n : Int} (H : Dg w g h r n) (k : Nat) : Dg (w.drewN k) g h r n := by
  obtain ⟨v, h1, h2⟩ := H.out
  exact ⟨v, h1, Kd.R_drewN h2 k⟩
/-- Another block is written. -/
theorem Dg.kept {w w' : World} {g g2 : Nat} {t : TypeId} {cs : Array Value} {h r : List Int} {n : Int} (H : Dg w g h r n) (hg : w.grownBy w' (some g2)) (hne : g ≠ g2) (h2 : w.heap[g2]? = some (.cells cs t (0, 0))) (ht : t ≠ 5) : Dg w' g h r n := by
  obtain ⟨v, h1, hR⟩ := H.out
  refine ⟨v, (hg.block g (heap_lt h1) (by intro e; injection e with e; exact hne e)).trans h1, ?_⟩
  have := Kd.R_types hR h2 (fun q hq => by
    have e : q = 5 := by
      rw [show KBs.E = [] from rfl] at hq
      simpa using hq
    exact fun e2 => ht (e2.symm.trans e))
  exact Kd.R_mono (Kd.R_grown this hg (fun k hk e => hk.2 (by injection e))) (fun _ _ => trivial)
theorem Dg.keep {w w' : World} {g : Nat} {h r : List Int} {n : Int} (H : Dg w g h r n) (hg : Below w.heap.size w w') : Dg w' g h r n := by
  obtain ⟨v, h1, hR⟩ := H.out
  exact ⟨v, (hg.block g (heap_lt h1)).trans h1, Kd.R_below hR hg⟩
theorem dig_rest {h : List Int} {x y : Value} (hh : h.length = 8) : (dig h x y)[8]? = some x ∧ (dig h x y)[9]? = some y := by
  constructor
  · rw [dig, List.getElem?_toArray, List.getElem?_append_right (by simp [hh])]; simp [hh]
  · rw [dig, List.getElem?_toArray, List.getElem?_append_right (by simp [hh])]; simp [hh]
theorem dig_set8 {h : List Int} {x y : Value} (hh : h.length = 8) (u : Value) : (dig h x y).setIfInBounds 8 u = dig h u y := by
  match h, hh with
  | [a0, a1, a2, a3, a4, a5, a6, a7], _ => rfl
theorem dig_set9 {h : List Int} {x y : Value} (hh : h.length = 8) (u : Value) : (dig h x y).setIfInBounds 9 u = dig h x u := by
  match h, hh with
  | [a0, a1, a2, a3, a4, a5, a6, a7], _ => rfl
theorem only_below {w w' : World} (h : Below w.heap.size w w') (r : Option Nat) : w.grownBy w' r := ⟨h.os, h.tape, h.output, h.size, fun i hi _ => h.block i hi⟩
theorem add_block (a : Addr) (i : Nat) : (a.add i).block = a.block := by unfold Addr.add; split <;> rfl
/-- Bytes do not lie in a digest. -/
theorem C_dig {w : World} {g n : Nat} {A : Option Addr} {l h : List Int} {a : Option Addr} {b c : Nat} {z : Int} (hC : KBs.C w A n l) (hg : w.heap[g]? = some (.cells (dig h (.slice a b c) (.int .i64 z)) 56 (0, 0))) : ∀ ad, A = some ad → 0 < n → ad.block ≠ g := by
  intro ad e hp he
  obtain ⟨ad2, e2, hcell⟩ := Kd.at_int hC 0 (Int.le_refl _) (by omega)
  rw [e] at e2
  injection e2 with e2
  subst e2
  have hb : (ad.add (0 : Int).toNat).block = g := by rw [add_block, he]
  generalize ad.add (0 : Int).toNat = q at *
  generalize rd l 0 = r at *
  unfold World.cell? at hcell
  rw [hb, hg] at hcell
  simp only at hcell
  split at hcell
  · cases hcell
  · rw [dig, List.getElem?_toArray] at hcell
    have hm := List.mem_of_getElem? hcell
    simp only [List.mem_append, List.mem_map, List.mem_cons, List.not_mem_nil, or_false] at hm
    rcases hm with ⟨x, _, hx⟩ | hx | hx
    · injection hx with hx; cases hx
    · cases hx
    · injection hx with hx; cases hx
theorem C_grown {w w' : World} {g n : Nat} {A : Option Addr} {l h : List Int} {a : Option Addr} {b c : Nat} {z : Int} (hC : KBs.C w A n l) (hg : w.heap[g]? = some (.cells (dig h (.slice a b c) (.int .i64 z)) 56 (0, 0))) (hG : w.grownBy w' (some g)) : KBs.C w' A n l :=
  Kd.C_keep 0 hC ⟨hG.size, fun i hi hne _ => hG.block i hi (by intro e; injection e with e; exact hne e)⟩ (C_dig hC hg)
theorem R_kept {w w' : World} {base g : Nat} {h : List Int} {x y v : Value} {l : List Int} (hR : Kd.R KBs 5 w base (fun _ => True) v l) (hg : w.heap[g]? = some (.cells (dig h x y) 56 (0, 0))) (hG : w.grownBy w' (some g)) : Kd.R KBs 5 w' base (fun _ => True) v l := by
  have hk := Kd.R_types hR hg (fun q hq => by
    have e : q = 5 := by
      rw [show KBs.E = [] from rfl] at hq
      simpa using hq
    rw [e]; decide)
  exact Kd.R_mono (Kd.R_grown hk hG (fun k hk e => hk.2 (by injection e))) (fun _ _ => trivial)
theorem dH_append (t m h0 : List Int) : dH (t ++ m) h0 = absN Kc (dH t h0) (dR t ++ m) ((dR t ++ m).length / 64) := by
  rw [dH_on, dH, ← len_join, Nat.add_comm]
theorem dR_append (t m : List Int) : dR (t ++ m) = (dR t ++ m).drop (64 * ((dR t ++ m).length / 64)) := by
  rw [dR, ← len_join, drop_join, List.drop_drop]
  congr 1
  omega
end Go.Proofs.Ytcagmiglgpjcjaa.Sh
