/-
  Pages of unlike places are unlike; one other byte makes three other payloads. (Plain: no program.)
-/
import Derived.Test.YtjnicooboiijgaaMSb
set_option linter.unusedVariables false
set_option linter.unusedSimpArgs false
namespace Go.Proofs.Ytjnicooboiijgaa.Sg
open Go.RowKit Go.Proofs.YtjnicooboiijgaaW.PrintWords Go.Proofs.YtjnicooboiijgaaW.PrintLast Go.Proofs.YtjnicooboiijgaaW.PrintMore Go.Proofs.Ytjnicooboiijgaa.PSg Go.Proofs.Ytjnicooboiijgaa.Gf Go.Proofs.Ytjnicooboiijgaa.Rs
theorem lowL_inj : ∀ (n x y : Nat), x < 256 ^ n → y < 256 ^ n → lowL n x = lowL n y → x = y
  | 0, x, y, hx, hy, _ => by simp at hx hy; omega
  | n + 1, x, y, hx, hy, h => by
    unfold lowL at h
    obtain ⟨h1, h2⟩ := List.cons.inj h
    have h1 : x % 256 = y % 256 := by exact_mod_cast h1
    have h3 := lowL_inj n (x / 256) (y / 256) (Nat.div_lt_of_lt_mul (by rw [Nat.pow_succ, Nat.mul_comm] at hx; exact hx)) (Nat.div_lt_of_lt_mul (by rw [Nat.pow_succ, Nat.mul_comm] at hy; exact hy)) h2
    omega
theorem page_inj {sz s r c s' r' c' : Nat} {P P' : List Int} (hl : P.length = P'.length) (hs : s < 18446744073709551616) (hs' : s' < 18446744073709551616) (hr : r < 4294967296) (hr' : r' < 4294967296) (hc : c < 256) (hc' : c' < 256) (h : pageL sz s r c P = pageL sz s' r' c' P') : s = s' ∧ r = r' ∧ c = c' ∧ P = P' := by
  unfold pageL bodyL at h
  have h0 := (List.append_inj h (by rw [lowL_len, lowL_len])).2
  obtain ⟨h1, _⟩ := List.append_inj h0 (by simp only [List.length_append, lowL_len, hl])
  obtain ⟨h2, e4⟩ := List.append_inj h1 (by simp only [List.length_append, lowL_len])
  obtain ⟨h3, _⟩ := List.append_inj h2 (by simp only [List.length_append, lowL_len])
  obtain ⟨h4, e3⟩ := List.append_inj h3 (by simp only [List.length_append, lowL_len])
  obtain ⟨e1, e2⟩ := List.append_inj h4 (by simp only [lowL_len])
  exact ⟨lowL_inj 8 _ _ hs hs' e1, lowL_inj 4 _ _ hr hr' e2, lowL_inj 1 _ _ hc hc' e3, e4⟩
theorem str_list (l : List Int) : (strOfNums l).toList = l.map fun n => UInt8.ofNat n.toNat := by
  rw [ByteArray.toList_eq, strOfNums_data]
theorem str_inj {x y : List Int} (hx : bytes x = true) (hy : bytes y = true) : (strOfNums x).toList = (strOfNums y).toList ↔ x = y := by
  refine ⟨fun h => ?_, fun h => by rw [h]⟩
  rw [str_list, str_list] at h
  have hl : x.length = y.length := by have := congrArg List.length h; simpa using this
  refine List.ext_getElem hl fun i h1 h2 => ?_
  have h3 : (x.map fun n => UInt8.ofNat n.toNat)[i]? = (y.map fun n => UInt8.ofNat n.toNat)[i]? := by rw [h]
  rw [List.getElem?_map, List.getElem?_map, List.getElem?_eq_getElem h1, List.getElem?_eq_getElem h2] at h3
  have h4 := Option.some.inj h3
  have hx' := List.all_eq_true.1 hx _ (List.getElem_mem h1)
  have hy' := List.all_eq_true.1 hy _ (List.getElem_mem h2)
  simp only [Bool.and_eq_true, decide_eq_true_eq] at hx' hy'
  have h5 := congrArg UInt8.toNat h4
  rw [UInt8.toNat_ofNat', UInt8.toNat_ofNat'] at h5
  omega
theorem pageL_bytes {sz s r c : Nat} {P : List Int} (h : bytes P = true) : bytes (pageL sz s r c P) = true := by
  have h1 := bodyL_ok (sz := sz) (seg := s) (row := r) (shard := c) h
  unfold okB at h1
  simp only [List.all_cons, List.all_nil, Bool.and_true] at h1
  unfold pageL bytes
  rw [List.all_append, h1, Bool.and_true]
  exact lowL_ok 4 _
/-- One byte turned. -/
def turn (xs : List Int) (y : Nat) : List Int := xs.set y (((xs.getD y 0).toNat ^^^ 1 : Nat) : Int)
theorem turn_len {xs : List Int} {y : Nat} : (turn xs y).length = xs.length := by unfold turn; rw [List.length_set]
theorem turn_bytes {xs : List Int} {y : Nat} (h : bytes xs = true) : bytes (turn xs y) = true := by
  unfold turn bytes at *
  rw [List.all_eq_true] at h ⊢
  intro z hz
  rcases List.mem_or_eq_of_mem_set hz with hz | rfl
  · exact h z hz
  · have : (xs.getD y 0).toNat < 256 := by
      rw [List.getD_eq_getElem?_getD]
      rcases hq : xs[y]? with _ | q
      · simp
      · have := h q (List.mem_of_getElem? hq)
        simp only [Bool.and_eq_true, decide_eq_true_eq] at this
        simp only [Option.getD_some]
        omega
    have h2 : (xs.getD y 0).toNat ^^^ 1 < 256 := Nat.xor_lt_two_pow (n := 8) this (by omega)
    simp only [Bool.and_eq_true, decide_eq_true_eq]
    omega
theorem turn_pad {xs : List Int} {y N : Nat} (hy : y < xs.length) : padL (turn xs y) N = turn (padL xs N) y := by
  unfold padL turn
  rw [List.length_set, List.set_append, if_pos hy, List.getD_eq_getElem?_getD, List.getD_eq_getElem?_getD, List.getElem?_append_left hy]
theorem byt_chunk {xs : List Int} {k r q x : Nat} (hq : q < k) (hx : x < r) : byt (shardsL xs k r) q x = (xs.getD (q * r + x) 0).toNat := by
  unfold byt
  rw [shardsL_row hq]
  unfold chunk
  rw [List.getD_eq_getElem?_getD, List.getElem?_take, if_pos hx, List.getElem?_drop, List.getD_eq_getElem?_getD]
theorem byt_turn {xs : List Int} {k r q x y : Nat} (hy : y < xs.length) (hq : q < k) (hx : x < r) : byt (shardsL (turn xs y) k r) q x = if q * r + x = y then byt (shardsL xs k r) q x ^^^ 1 else byt (shardsL xs k r) q x := by
  rw [byt_chunk hq hx, byt_chunk hq hx]
  unfold turn
  rw [List.getD_eq_getElem?_getD, List.getElem?_set]
  by_cases h : q * r + x = y
  · rw [if_pos h.symm, if_pos h, h, if_pos hy]; simp
  · rw [if_neg (fun e => h e.symm), if_neg h, List.getD_eq_getElem?_getD]
theorem xor_one_ne (a : Nat) : a ^^^ 1 ≠ a := by
  intro h
  have : a ^^^ (a ^^^ 1) = a ^^^ a := by rw [h]
  rw [← Nat.xor_assoc, Nat.xor_self, Nat.zero_xor] at this
  omega
theorem xor_ne {a d : Nat} (hd : d ≠ 0) : a ^^^ d ≠ a := by
  intro h
  have : a ^^^ (a ^^^ d) = a ^^^ a := by rw [h]
  rw [← Nat.xor_assoc, Nat.xor_self, Nat.zero_xor] at this
  exact hd this
theorem divmod {r q x y : Nat} (hx : x < r) : q * r + x = y ↔ q = y / r ∧ x = y % r := by
  constructor
  · rintro rfl
    have h0 : 0 < r := by omega
    rw [Nat.add_comm, Nat.add_mul_div_right _ _ h0, Nat.add_mul_mod_self_right, Nat.div_eq_of_lt hx, Nat.mod_eq_of_lt hx]
    exact ⟨by omega, rfl⟩
  · rintro ⟨rfl, rfl⟩
    rw [Nat.mul_comm]
    exact Nat.div_add_mod y r
theorem sx_congr {f g : Nat → Nat} : ∀ n, (∀ k, k < n → f k = g k) → sx n f = sx n g
  | 0, _ => rfl
  | n + 1, h => by
    show sx n f ^^^ f n = sx n g ^^^ g n
    rw [sx_congr n (fun k hk => h k (by omega)), h n (by omega)]
theorem sx_change {f f2 : Nat → Nat} {i d : Nat} : ∀ n, i < n → f2 i = f i ^^^ d → (∀ q, q ≠ i → f2 q = f q) → sx n f2 = sx n f ^^^ d
  | 0, h, _, _ => absurd h (Nat.not_lt_zero _)
  | n + 1, h, h1, h2 => by
    show sx n f2 ^^^ f2 n = (sx n f ^^^ f n) ^^^ d
    rcases Nat.eq_or_lt_of_le (Nat.le_of_lt_succ h) with e | e
    · subst e
      rw [h1, sx_congr i (fun q hq => h2 q (by omega))]
      ac_rfl
    · rw [sx_change n e h1 h2, h2 n (by omega)]
      ac_rfl
theorem tcol_turn {xs : List Int} {k r y : Nat} (ρ : Nat) (hb : bytes xs = true) (hl : xs.length = k * r) (hy : y < xs.length) (hr : 0 < r) : tcol (rho ρ) (shardsL (turn xs y) k r) k (y % r) = tcol (rho ρ) (shardsL xs k r) k (y % r) ^^^ rho ρ (y / r) := by
  have hm := Nat.mod_lt y hr
  have hq : y / r < k := Nat.div_lt_of_lt_mul (by rw [Nat.mul_comm r k, ← hl]; exact hy)
  have hlt := fun q => (okB_at (shardsL_ok (k := k) (r := r) hb) q (y % r)).1
  unfold tcol
  refine (sx_congr (f := fun q => GfM.M (rho ρ q) (byt (shardsL (turn xs y) k r) q (y % r))) (g := fun q => if q = y / r then GfM.M (rho ρ q) (byt (shardsL xs k r) q (y % r)) ^^^ rho ρ q else GfM.M (rho ρ q) (byt (shardsL xs k r) q (y % r))) k fun q hqk => ?_).trans (sx_change k hq (by simp) (fun q hqn => by simp [hqn]))
  rw [byt_turn hy hqk hm]
  by_cases h : q = y / r
  · rw [if_pos h, if_pos ((divmod hm).2 ⟨h, rfl⟩), GfM.M_xor_right (rho ρ q) (byt (shardsL xs k r) q (y % r)) 1 (GfM.g_lt _) (hlt q) (by decide), GfM.M_one (rho ρ q) (GfM.g_lt _)]
  · rw [if_neg h, if_neg (fun e => h ((divmod hm).1 e).1)]
theorem rowL_ne {m x : Nat} {f g : Nat → Nat} (hx : x < m) (h : f x ≠ g x) : rowL m f ≠ rowL m g := by
  intro e
  have h1 : (rowL m f)[x]? = (rowL m g)[x]? := by rw [e]
  simp [rowL, hx] at h1
  exact h (by exact_mod_cast h1)
/-- The payloads that are other ones: the byte's own, P and Q. -/
theorem pay_turn {xs : List Int} {k r y : Nat} (hb : bytes xs = true) (hl : xs.length = k * r) (hy : y < xs.length) (hr : 0 < r) (i : Nat) (hi : i < k + 2) : Gf.row (payL (turn xs y) k r) i ≠ Gf.row (payL xs k r) i ↔ (i = y / r ∨ k ≤ i) := by
  have hq : y / r < k := Nat.div_lt_of_lt_mul (by rw [Nat.mul_comm r k, ← hl]; exact hy)
  have hm := Nat.mod_lt y hr
  rcases Nat.lt_or_ge i k with h | h
  · have e : ∀ zs : List Int, Gf.row (payL zs k r) i = chunk zs r i := fun zs => by
      unfold payL Gf.row
      rw [List.getD_eq_getElem?_getD, List.getElem?_append_left (by rw [shardsL_len]; exact h), ← List.getD_eq_getElem?_getD]
      exact shardsL_row h
    rw [e, e]
    by_cases hi' : i = y / r
    · refine ⟨fun _ => .inl hi', fun _ he => ?_⟩
      have h1 := byt_turn (k := k) (x := y % r) hy h hm
      rw [if_pos ((divmod hm).2 ⟨hi', rfl⟩)] at h1
      unfold byt at h1
      rw [shardsL_row h, shardsL_row h, he] at h1
      exact xor_one_ne _ h1.symm
    · refine ⟨fun hne => absurd ?_ hne, fun ho => by omega⟩
      unfold chunk turn
      refine List.ext_getElem? fun x => ?_
      rw [List.getElem?_take, List.getElem?_take]
      by_cases hx : x < r
      · rw [if_pos hx, if_pos hx, List.getElem?_drop, List.getElem?_drop, List.getElem?_set, if_neg (fun e => hi' ((divmod hx).1 e.symm).1)]
      · rw [if_neg hx, if_neg hx]
  · refine ⟨fun _ => .inr h, fun _ => ?_⟩
    have e : ∀ (zs : List Int), Gf.row (payL zs k r) i = rowL r (tcol (rho (i - k)) (shardsL zs k r) k) := fun zs => by
      unfold payL Gf.row
      rw [List.getD_eq_getElem?_getD, List.getElem?_append_right (by rw [shardsL_len]; exact h), shardsL_len]
      have : i - k = 0 ∨ i - k = 1 := by omega
      rcases this with h0 | h0 <;> rw [h0] <;> rfl
    rw [e, e]
    refine rowL_ne hm ?_
    rw [tcol_turn _ hb hl hy hr]
    exact xor_ne (GfM.g_ne_zero _)
/-- How many of the first rows differ. -/
def diffs (l l' : List (List Int)) : Nat → Nat
  | 0 => 0
  | t + 1 => diffs l l' t + if Gf.row l t = Gf.row l' t then 0 else 1
theorem diffs_le (l l' : List (List Int)) : ∀ t, diffs l l' t ≤ t
  | 0 => Nat.le_refl _
  | t + 1 => by have := diffs_le l l' t; unfold diffs; split <;> omega
theorem diffs_three {l l' : List (List Int)} {k q : Nat} (hq : q < k) (h : ∀ i, i < k + 2 → (Gf.row l i ≠ Gf.row l' i ↔ (i = q ∨ k ≤ i))) : diffs l l' (k + 2) = 3 := by
  have h1 : ∀ t, t ≤ k → diffs l l' t = if q < t then 1 else 0 := by
    intro t
    induction t with
    | zero => intro _; simp [diffs]
    | succ t ih =>
      intro ht
      have h2 := h t (by omega)
      unfold diffs
      rw [ih (by omega)]
      by_cases hl : Gf.row l t = Gf.row l' t
      · rw [if_pos hl]
        have : ¬ (t = q ∨ k ≤ t) := fun e => (h2.2 e) hl
        split <;> split <;> omega
      · rw [if_neg hl]
        have := h2.1 hl
        split <;> split <;> omega
  have h3 := (h k (by omega)).2 (.inr (Nat.le_refl _))
  have h4 := (h (k + 1) (by omega)).2 (.inr (by omega))
  show diffs l l' (k + 1) + _ = 3
  rw [if_neg h4]
  show diffs l l' k + _ + 1 = 3
  rw [if_neg h3, h1 k (Nat.le_refl _), if_pos hq]
theorem pagesL_row {sz s r i : Nat} {l : List (List Int)} (h : i < l.length) : Gf.row (pagesL sz s r l) i = pageL sz s r i (Gf.row l i) := by
  unfold pagesL
  rw [Gf.row, List.getD_eq_getElem?_getD, List.getElem?_map, List.getElem?_range h]
  rfl
end Go.Proofs.Ytjnicooboiijgaa.Sg
