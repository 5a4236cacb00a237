/-
  RsFinds, the plain law: shards with their parity fit; with one other byte they do not.
-/
import Derived.Test.YtjolnjckgoilpaaRsHd
set_option linter.unusedVariables false
set_option linter.unusedSimpArgs false
namespace Go.Proofs.Ytjolnjckgoilpaa.Rs
open Go.RowKit Go.Proofs.YtjolnjckgoilpaaW.PrintWords Go.Proofs.YtjolnjckgoilpaaW.PrintLast Go.Proofs.Ytjolnjckgoilpaa.PRa Go.Proofs.Ytjolnjckgoilpaa.Gf
def allL (a : List (List Int)) (k m : Nat) : List (List Int) := a ++ [rowL m (tcol (rho 0) a k), rowL m (tcol (rho 1) a k)]
theorem allL_row {a : List (List Int)} {k m i : Nat} (ha : a.length = k) (hi : i < k) : row (allL a k m) i = row a i := by
  unfold row allL
  rw [List.getD_eq_getElem?_getD, List.getElem?_append_left (by omega), List.getD_eq_getElem?_getD]
theorem allL_row0 {a : List (List Int)} {k m : Nat} (ha : a.length = k) : row (allL a k m) k = rowL m (tcol (rho 0) a k) := by
  unfold row allL
  rw [List.getD_eq_getElem?_getD, List.getElem?_append_right (by omega), ha]
  simp
theorem allL_row1 {a : List (List Int)} {k m : Nat} (ha : a.length = k) : row (allL a k m) (k + 1) = rowL m (tcol (rho 1) a k) := by
  unfold row allL
  rw [List.getD_eq_getElem?_getD, List.getElem?_append_right (by omega), ha]
  simp
theorem rowL_ok {m : Nat} {f : Nat → Nat} (h : ∀ x, f x < 256) : (rowL m f).all (fun x => decide (0 ≤ x) && decide (x < 256)) = true := by
  rw [List.all_eq_true]
  intro x hx
  simp only [rowL, List.mem_map, List.mem_range] at hx
  obtain ⟨q, _, rfl⟩ := hx
  have := h q
  simp
  omega
theorem rho_lt (r i : Nat) : rho r i < 256 := GfM.g_lt _
theorem allL_ok {a : List (List Int)} {k m : Nat} (h : okB a = true) : okB (allL a k m) = true := by
  unfold okB at h ⊢
  unfold allL
  rw [List.all_append, h, Bool.true_and]
  simp only [List.all_cons, List.all_nil, Bool.and_true]
  rw [rowL_ok (tcol_lt (rho_lt 0) k), rowL_ok (tcol_lt (rho_lt 1) k)]
  rfl
theorem allL_len {a : List (List Int)} {k m : Nat} (ha : a.length = k) : (allL a k m).length = k + 2 := by simp [allL, ha]
theorem allL_lens {a : List (List Int)} {k m : Nat} (ha : a.length = k) (hm : ∀ i, i < k → (row a i).length = m) : ∀ i, i < k + 2 → (row (allL a k m) i).length = m := fun i hi => by
  rcases Nat.lt_or_ge i k with h | h
  · rw [allL_row ha h]; exact hm i h
  · rcases Nat.eq_or_lt_of_le h with e | e
    · subst e; rw [allL_row0 ha]; exact rowL_length _ _
    · obtain rfl : i = k + 1 := by omega
      rw [allL_row1 ha]; exact rowL_length _ _
theorem tcol_congr {ρ : Nat → Nat} {l l' : List (List Int)} {k x : Nat} (h : ∀ q, q < k → row l q = row l' q) : tcol ρ l k x = tcol ρ l' k x := by
  unfold tcol
  exact sx_congr k fun q hq => by unfold byt; rw [h q hq]
theorem drop2 {l : List (List Int)} {k : Nat} (h : l.length = k + 2) : l.drop k = [row l k, row l (k + 1)] := by
  rw [List.drop_eq_getElem_cons (by omega), List.drop_eq_getElem_cons (by omega), List.drop_eq_nil_of_le (by omega)]
  have h1 : k < l.length := by omega
  have h2 : k + 1 < l.length := by omega
  simp [row, List.getD, h1, h2]
/-- Shards with their parity fit. -/
theorem chk_all {a : List (List Int)} {k m : Nat} (ha : a.length = k) : chkB (allL a k m) k m = true := by
  unfold chkB
  rw [drop2 (allL_len ha), allL_row0 ha, allL_row1 ha]
  rw [rowL_congr (fun x _ => tcol_congr (fun q hq => allL_row ha hq)), rowL_congr (g := tcol (rho 1) a k) (fun x _ => tcol_congr (fun q hq => allL_row ha hq))]
  simp
theorem sx_change {f f2 : Nat → Nat} {i d : Nat} : ∀ n, i < n → f2 i = f i ^^^ d → (∀ q, q ≠ i → f2 q = f q) → sx n f2 = sx n f ^^^ d
  | 0, h, _, _ => absurd h (Nat.not_lt_zero _)
  | n + 1, h, h1, h2 => by
    show sx n f2 ^^^ f2 n = (sx n f ^^^ f n) ^^^ d
    rcases Nat.eq_or_lt_of_le (Nat.le_of_lt_succ h) with e | e
    · subst e
      rw [h1, sx_congr i (fun q hq => h2 q (by omega))]
      ac_rfl
    · rw [sx_change n e h1 h2, h2 n (by omega)]
      ac_rfl
theorem xor_ne {a d : Nat} (h : d ≠ 0) : a ^^^ d ≠ a := fun e => h (by
  have : a ^^^ (a ^^^ d) = a ^^^ a := by rw [e]
  rwa [← Nat.xor_assoc, Nat.xor_self, Nat.zero_xor] at this)
/-- The list with one other byte. -/
def putL (l : List (List Int)) (i j v : Nat) : List (List Int) := l.set i ((row l i).set j ((v : Nat) : Int))
theorem putL_row {l : List (List Int)} {i j v : Nat} (hi : i < l.length) (q : Nat) : row (putL l i j v) q = if q = i then (row l i).set j ((v : Nat) : Int) else row l q := by
  unfold putL row
  rw [List.getD_eq_getElem?_getD, List.getElem?_set]
  by_cases e : i = q
  · subst e; simp [hi]
  · rw [if_neg e, if_neg (fun h => e h.symm), List.getD_eq_getElem?_getD]
theorem putL_byt {l : List (List Int)} {i j v : Nat} (hi : i < l.length) (hj : j < (row l i).length) (q x : Nat) : byt (putL l i j v) q x = if q = i ∧ x = j then v else byt l q x := by
  unfold byt
  rw [putL_row hi]
  by_cases e : q = i
  · subst e
    rw [if_pos rfl]
    by_cases e2 : x = j
    · subst e2; rw [if_pos ⟨rfl, rfl⟩]; simp [List.getD, hj]
    · rw [if_neg (fun h => e2 h.2), List.getD_eq_getElem?_getD, List.getElem?_set_ne (fun h => e2 h.symm), List.getD_eq_getElem?_getD]
  · rw [if_neg e, if_neg (fun h => e h.1)]
theorem putL_len (l : List (List Int)) (i j v : Nat) : (putL l i j v).length = l.length := by simp [putL]
theorem putL_lens {l : List (List Int)} {i j v : Nat} (hi : i < l.length) (q : Nat) : (row (putL l i j v) q).length = (row l q).length := by
  rw [putL_row hi]
  by_cases e : q = i
  · subst e; rw [if_pos rfl, List.length_set]
  · rw [if_neg e]
theorem putL_ok {l : List (List Int)} {i j v : Nat} (h : okB l = true) (hv : v < 256) : okB (putL l i j v) = true := by
  unfold okB putL at *
  rw [List.all_eq_true] at h ⊢
  intro r hr
  rcases List.mem_or_eq_of_mem_set hr with h1 | h1
  · exact h r h1
  · subst h1
    rw [List.all_eq_true]
    intro x hx
    rcases List.mem_or_eq_of_mem_set hx with h2 | h2
    · have hri : (row l i) ∈ l ∨ row l i = [] := by
        unfold row
        rw [List.getD_eq_getElem?_getD]
        cases e : l[i]? with
        | none => right; rfl
        | some y => left; exact List.mem_of_getElem? e
      rcases hri with h3 | h3
      · exact List.all_eq_true.mp (h _ h3) x h2
      · rw [h3] at h2; cases h2
    · subst h2
      simp
      omega
/-- With one other byte they do not fit. -/
theorem chk_put {a : List (List Int)} {k m i j d : Nat} (ha : a.length = k) (oka : okB a = true) (hm : ∀ q, q < k → (row a q).length = m) (hi : i < k + 2) (hj : j < m) (hd : d ≠ 0) (hd2 : d < 256) :
    chkB (putL (allL a k m) i j (byt (allL a k m) i j ^^^ d)) k m = false := by
  have hlen := allL_len (m := m) ha
  have hlens := allL_lens ha hm
  have hok := allL_ok (k := k) (m := m) oka
  generalize hL : allL a k m = l at *
  have hi' : i < l.length := by omega
  have hj' : j < (row l i).length := by rw [hlens i hi]; exact hj
  unfold chkB
  rw [decide_eq_false_iff_not, drop2 (by rw [putL_len, hlen])]
  intro e
  injection e with e0 e1
  injection e1 with e1 _
  have c0 : tcol (rho 0) (putL l i j (byt l i j ^^^ d)) k j = byt (putL l i j (byt l i j ^^^ d)) k j := by
    have := congrArg (fun r => (r.getD j 0).toNat) e0
    rwa [byt_rowL hj] at this
  have c1 : tcol (rho 1) (putL l i j (byt l i j ^^^ d)) k j = byt (putL l i j (byt l i j ^^^ d)) (k + 1) j := by
    have := congrArg (fun r => (r.getD j 0).toNat) e1
    rwa [byt_rowL hj] at this
  have f0 : byt l k j = tcol (rho 0) l k j := by
    rw [← hL]
    unfold byt
    rw [allL_row0 ha, byt_rowL hj]
    exact (tcol_congr (fun q hq => allL_row ha hq)).symm
  have f1 : byt l (k + 1) j = tcol (rho 1) l k j := by
    rw [← hL]
    unfold byt
    rw [allL_row1 ha, byt_rowL hj]
    exact (tcol_congr (fun q hq => allL_row ha hq)).symm
  rw [putL_byt hi' hj'] at c0 c1
  rcases Nat.lt_or_ge i k with h | h
  · rw [if_neg (by omega), f0, tcol_first (putL_ok hok (GfM.xor_lt _ _ (okB_at hok i j).1 hd2)), tcol_first hok, sx_change (f := fun q => byt l q j) (i := i) (d := d) k h (by rw [putL_byt hi' hj', if_pos ⟨rfl, rfl⟩]) (fun q hq => by rw [putL_byt hi' hj', if_neg (fun h => hq h.1)])] at c0
    exact xor_ne hd c0
  · have hsame : ∀ r, tcol (rho r) (putL l i j (byt l i j ^^^ d)) k j = tcol (rho r) l k j := fun r => tcol_congr (fun q hq => by rw [putL_row hi', if_neg (by omega)])
    rcases Nat.eq_or_lt_of_le h with e | e
    · subst e
      rw [if_pos ⟨rfl, rfl⟩, hsame, ← f0] at c0
      exact xor_ne hd c0.symm
    · obtain rfl : i = k + 1 := by omega
      rw [if_pos ⟨rfl, rfl⟩, hsame, ← f1] at c1
      exact xor_ne hd c1.symm
end Go.Proofs.Ytjolnjckgoilpaa.Rs
