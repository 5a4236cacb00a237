/-
  The field of 256, on natural numbers: products, powers, logarithms; and its laws.
-/
namespace Go.Proofs.Ytjolnjckgoilpaa.GfM

def xt (a : Nat) : Nat := if a < 128 then 2 * a else (2 * a - 256) ^^^ 29
def ml : Nat → Nat → Nat → Nat → Nat
  | 0, _, _, o => o
  | k + 1, a, b, o => ml k (xt a) (b / 2) (if b % 2 = 1 then o ^^^ a else o)
def M (a b : Nat) : Nat := ml 8 a b 0
def xts : Nat → Nat → Nat
  | 0, a => a
  | n + 1, a => xt (xts n a)
def g (n : Nat) : Nat := xts n 1

theorem xor_lt (a b : Nat) (ha : a < 256) (hb : b < 256) : a ^^^ b < 256 := Nat.xor_lt_two_pow (n := 8) ha hb
theorem xt_lt (a : Nat) (h : a < 256) : xt a < 256 := by
  unfold xt
  split
  · omega
  · exact xor_lt _ _ (by omega) (by omega)
theorem xt_form (a : Nat) (h : a < 256) : xt a = (2 * a) ^^^ (285 * (a / 128)) := by
  have : ∀ x : Fin 256, xt x.1 = (2 * x.1) ^^^ (285 * (x.1 / 128)) := by decide +kernel
  exact this ⟨a, h⟩
theorem div_bit (a : Nat) (h : a < 256) : a / 128 = 0 ∨ a / 128 = 1 := by omega
theorem xt_xor (a b : Nat) (ha : a < 256) (hb : b < 256) : xt (a ^^^ b) = xt a ^^^ xt b := by
  rw [xt_form _ ha, xt_form _ hb, xt_form _ (xor_lt _ _ ha hb)]
  have e1 : 2 * (a ^^^ b) = (2 * a) ^^^ (2 * b) := by
    have := Nat.shiftLeft_xor_distrib (a := a) (b := b) (i := 1)
    simpa [Nat.shiftLeft_eq, Nat.mul_comm] using this
  have e2 : (a ^^^ b) / 128 = (a / 128) ^^^ (b / 128) := by
    have := Nat.shiftRight_xor_distrib (a := a) (b := b) (i := 7)
    simp only [Nat.shiftRight_eq_div_pow] at this
    exact this
  rw [e1, e2]
  have e3 : 285 * ((a / 128) ^^^ (b / 128)) = (285 * (a / 128)) ^^^ (285 * (b / 128)) := by
    rcases div_bit a ha with h | h <;> rcases div_bit b hb with k | k <;> rw [h, k] <;> rfl
  rw [e3]
  ac_rfl
theorem ml_xor : ∀ (k a a' b o o' : Nat), a < 256 → a' < 256 → ml k (a ^^^ a') b (o ^^^ o') = ml k a b o ^^^ ml k a' b o'
  | 0, _, _, _, _, _, _, _ => rfl
  | k + 1, a, a', b, o, o', h, h' => by
    simp only [ml]
    rw [xt_xor a a' h h']
    by_cases e : b % 2 = 1
    · simp only [if_pos e]
      rw [show o ^^^ o' ^^^ (a ^^^ a') = (o ^^^ a) ^^^ (o' ^^^ a') by ac_rfl]
      exact ml_xor k _ _ _ _ _ (xt_lt _ h) (xt_lt _ h')
    · simp only [if_neg e]
      exact ml_xor k _ _ _ _ _ (xt_lt _ h) (xt_lt _ h')
theorem M_xor (a a' b : Nat) (h : a < 256) (h' : a' < 256) : M (a ^^^ a') b = M a b ^^^ M a' b := by
  have := ml_xor 8 a a' b 0 0 h h'
  rwa [Nat.xor_self] at this
theorem ml_lt : ∀ (k a b o : Nat), a < 256 → o < 256 → ml k a b o < 256
  | 0, _, _, _, _, ho => ho
  | k + 1, a, b, o, ha, ho => by
    simp only [ml]
    refine ml_lt k _ _ _ (xt_lt _ ha) ?_
    split
    · exact xor_lt _ _ ho ha
    · exact ho
theorem M_lt (a b : Nat) (ha : a < 256) : M a b < 256 := ml_lt 8 a b 0 ha (by omega)
/-- What holds of the bits, of 0 and of sums holds of all bytes. -/
theorem by_bits (P : Nat → Prop) (h0 : P 0) (hb : ∀ i : Fin 8, P (2 ^ i.1)) (hx : ∀ x y, x < 256 → y < 256 → P x → P y → P (x ^^^ y)) : ∀ a, a < 256 → P a := by
  have main : ∀ k, k ≤ 8 → ∀ a, a < 2 ^ k → P a := by
    intro k
    induction k with
    | zero => intro _ a ha; have : a = 0 := by simpa using ha
              rw [this]; exact h0
    | succ k ih =>
      intro hk a ha
      by_cases h : a < 2 ^ k
      · exact ih (by omega) a h
      · have e : a = 2 ^ k ^^^ (a - 2 ^ k) := by
          have h2 : a - 2 ^ k < 2 ^ k := by rw [Nat.pow_succ] at ha; omega
          have := Nat.two_pow_add_eq_or_of_lt h2 1
          rw [Nat.mul_one] at this
          have h3 : 2 ^ k ^^^ (a - 2 ^ k) = 2 ^ k ||| (a - 2 ^ k) := by
            apply Nat.eq_of_testBit_eq
            intro i
            rw [Nat.testBit_xor, Nat.testBit_or, Nat.testBit_two_pow]
            by_cases hi : k = i
            · subst hi
              rw [Nat.testBit_lt_two_pow h2]
              simp
            · simp [hi]
          rw [h3, ← this]
          omega
        have hp : 2 ^ k ≤ 2 ^ 7 := Nat.pow_le_pow_right (by omega) (by omega)
        have h2 : a - 2 ^ k < 2 ^ k := by rw [Nat.pow_succ] at ha; omega
        rw [e]
        exact hx _ _ (by omega) (by omega) (hb ⟨k, by omega⟩) (ih (by omega) _ h2)
  exact fun a ha => main 8 (Nat.le_refl _) a ha
theorem bits_ok : ∀ i : Fin 8, ∀ b : Fin 256, xt (M (2 ^ i.1) b.1) = M (2 ^ i.1) (xt b.1) := by decide +kernel
theorem zero_M : ∀ b : Fin 256, M 0 b.1 = 0 := by decide +kernel
theorem xt_M (a b : Nat) (ha : a < 256) (hb : b < 256) : xt (M a b) = M a (xt b) := by
  refine by_bits (fun a => xt (M a b) = M a (xt b)) ?_ (fun i => bits_ok i ⟨b, hb⟩) ?_ a ha
  · show xt (M 0 b) = M 0 (xt b)
    rw [zero_M ⟨b, hb⟩, zero_M ⟨xt b, xt_lt b hb⟩]; rfl
  · intro x y hx hy e1 e2
    show xt (M (x ^^^ y) b) = M (x ^^^ y) (xt b)
    rw [M_xor x y b hx hy, M_xor x y (xt b) hx hy, xt_xor _ _ (M_lt _ _ hx) (M_lt _ _ hy), e1, e2]
theorem M_one (a : Nat) (h : a < 256) : M a 1 = a := by
  have : ∀ x : Fin 256, M x.1 1 = x.1 := by decide +kernel
  exact this ⟨a, h⟩
theorem M_zero (a : Nat) (h : a < 256) : M a 0 = 0 := by
  have : ∀ x : Fin 256, M x.1 0 = 0 := by decide +kernel
  exact this ⟨a, h⟩
theorem zero_M' (a : Nat) (h : a < 256) : M 0 a = 0 := zero_M ⟨a, h⟩
theorem xts_lt (n a : Nat) (h : a < 256) : xts n a < 256 := by
  induction n with
  | zero => exact h
  | succ n ih => exact xt_lt _ ih
theorem g_lt (n : Nat) : g n < 256 := xts_lt n 1 (by omega)
theorem M_g (a n : Nat) (h : a < 256) : M a (g n) = xts n a := by
  induction n with
  | zero => exact M_one a h
  | succ n ih =>
    show M a (xt (g n)) = xt (xts n a)
    rw [← xt_M a (g n) h (g_lt n), ih]
theorem xts_add (m n a : Nat) : xts (m + n) a = xts m (xts n a) := by
  induction m with
  | zero => rw [Nat.zero_add]; rfl
  | succ m ih => rw [Nat.add_right_comm]; show xt _ = xt _; rw [ih]
theorem g_add (m n : Nat) : M (g m) (g n) = g (m + n) := by
  rw [M_g _ _ (g_lt m), Nat.add_comm, g, g, xts_add]
theorem g_255 : g 255 = 1 := by decide +kernel
theorem g_period (n q : Nat) : g (n + 255 * q) = g n := by
  induction q with
  | zero => rfl
  | succ q ih =>
    rw [Nat.mul_succ, ← Nat.add_assoc, ← g_add, g_255, M_one _ (g_lt _), ih]
/-- The powers of 2, one behind the other. -/
def walk : Nat → Nat → List Nat
  | 0, _ => []
  | n + 1, a => a :: walk n (xt a)
theorem walk_at : ∀ (n a k : Nat), k < n → (walk n a)[k]? = some (xts k a)
  | n + 1, a, 0, _ => rfl
  | n + 1, a, k + 1, h => by
    show (walk n (xt a))[k]? = _
    rw [walk_at n (xt a) k (by omega)]
    show some (xts k (xts 1 a)) = _
    rw [← xts_add]
theorem walk_len : ∀ (n a : Nat), (walk n a).length = n
  | 0, _ => rfl
  | n + 1, a => by show (walk n (xt a)).length + 1 = n + 1; rw [walk_len n]
theorem log_table : ∀ a : Fin 256, a.1 = 0 ∨ (walk 255 1).contains a.1 = true := by decide +kernel
theorem has_log (a : Nat) (h : a < 256) (h0 : a ≠ 0) : ∃ n, n < 255 ∧ g n = a := by
  rcases log_table ⟨a, h⟩ with h1 | h1
  · exact absurd h1 h0
  · have hm : a ∈ walk 255 1 := by simpa using h1
    obtain ⟨k, hk⟩ := List.mem_iff_getElem?.1 hm
    have hl : k < 255 := by
      have := (List.getElem?_eq_some_iff.1 hk).1
      rwa [walk_len] at this
    rw [walk_at 255 1 k hl] at hk
    exact ⟨k, hl, Option.some.inj hk⟩
/-- No two powers below 255 are alike. -/
theorem order_table : ∀ n : Fin 255, n.1 = 0 ∨ g n.1 ≠ 1 := by decide +kernel
theorem g_ne_zero (n : Nat) : g n ≠ 0 := by
  intro h
  have h1 : M (g n) (g (255 * (n + 1) - n)) = 1 := by
    rw [g_add, show n + (255 * (n + 1) - n) = 0 + 255 * (n + 1) by omega, g_period]; rfl
  rw [h, zero_M' _ (g_lt _)] at h1
  cases h1
theorem g_inj (m n : Nat) (hm : m < 255) (hn : n < 255) (h : g m = g n) : m = n := by
  have key : ∀ m n, m ≤ n → n < 255 → g m = g n → m = n := fun m n hmn hn h => by
    have h1 : M (g m) (g (255 - m)) = M (g n) (g (255 - m)) := by rw [h]
    rw [g_add, g_add, show m + (255 - m) = 0 + 255 * 1 by omega, g_period, show n + (255 - m) = (n - m) + 255 * 1 by omega, g_period] at h1
    rcases order_table ⟨n - m, by omega⟩ with h2 | h2
    · have : n - m = 0 := h2
      omega
    · exact absurd h1.symm h2
  rcases Nat.le_total m n with h1 | h1
  · exact key m n h1 hn h
  · exact (key n m h1 hm h.symm).symm
theorem M_comm (a b : Nat) (ha : a < 256) (hb : b < 256) : M a b = M b a := by
  by_cases h0 : a = 0
  · rw [h0, zero_M' b hb, M_zero b hb]
  by_cases k0 : b = 0
  · rw [k0, zero_M' a ha, M_zero a ha]
  obtain ⟨m, _, rfl⟩ := has_log a ha h0
  obtain ⟨n, _, rfl⟩ := has_log b hb k0
  rw [g_add, g_add, Nat.add_comm]
theorem M_assoc (a b c : Nat) (ha : a < 256) (hb : b < 256) (hc : c < 256) : M a (M b c) = M (M a b) c := by
  by_cases h0 : a = 0
  · rw [h0, zero_M' _ (M_lt _ _ hb), zero_M' b hb, zero_M' c hc]
  by_cases k0 : b = 0
  · rw [k0, zero_M' c hc, M_zero a ha, zero_M' c hc]
  by_cases l0 : c = 0
  · rw [l0, M_zero b hb, M_zero a ha, M_zero _ (M_lt _ _ ha)]
  obtain ⟨m, _, rfl⟩ := has_log a ha h0
  obtain ⟨n, _, rfl⟩ := has_log b hb k0
  obtain ⟨l, _, rfl⟩ := has_log c hc l0
  rw [g_add, g_add, g_add, g_add, Nat.add_assoc]
theorem M_xor_right (a b c : Nat) (ha : a < 256) (hb : b < 256) (hc : c < 256) : M a (b ^^^ c) = M a b ^^^ M a c := by
  rw [M_comm a _ ha (xor_lt _ _ hb hc), M_xor b c a hb hc, M_comm b a hb ha, M_comm c a hc ha]
theorem M_ne_zero (a b : Nat) (ha : a < 256) (hb : b < 256) (h0 : a ≠ 0) (k0 : b ≠ 0) : M a b ≠ 0 := by
  obtain ⟨m, _, rfl⟩ := has_log a ha h0
  obtain ⟨n, _, rfl⟩ := has_log b hb k0
  rw [g_add]
  exact g_ne_zero _
/-- Powers. -/
def P (a : Nat) : Nat → Nat
  | 0 => 1
  | n + 1 => M (P a n) a
theorem P_lt (a n : Nat) : P a n < 256 := by
  induction n with
  | zero => show 1 < 256; omega
  | succ n ih => exact M_lt _ _ ih
theorem P_g (m n : Nat) : P (g m) n = g (m * n) := by
  induction n with
  | zero => rfl
  | succ n ih => show M (P (g m) n) (g m) = _; rw [ih, g_add, Nat.mul_succ]
end Go.Proofs.Ytjolnjckgoilpaa.GfM
