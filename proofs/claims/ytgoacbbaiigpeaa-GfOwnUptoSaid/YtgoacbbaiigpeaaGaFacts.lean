/-
  What the field's printed functions tell, program and reference: products, powers, quotients, logarithms.
-/
import Derived.Test.YtgoacbbaiigpeaaPGax3
namespace Go.Proofs.Ytgoacbbaiigpeaa.GaFacts
open Go.RowKit Go.Proofs.Ytgoacbbaiigpeaa.PGa Go.Proofs.YtgoacbbaiigpeaaW.PrintWords Go.Proofs.YtgoacbbaiigpeaaW.PrintLast

theorem byte {a : Int} (h : (Lit.int .u8 a).wf = true) : ∃ n : Nat, n < 256 ∧ a = n := by
  simp [Lit.wf, IntKind.min, IntKind.max, IntKind.signed, IntKind.bits] at h
  exact ⟨a.toNat, by omega, by omega⟩
theorem int64 {a : Int} (h : (Lit.int .i64 a).wf = true) : -9223372036854775808 ≤ a ∧ a ≤ 9223372036854775807 := by
  simp [Lit.wf, IntKind.min, IntKind.max, IntKind.signed, IntKind.bits] at h
  omega
theorem log_l0 (n : Nat) (hn : n < 255) : ∀ (d k i : Nat), d + i = n → d + 20 < k → gf_Log.l0 k ((GfM.g n : Nat) : Int) i ((GfM.g i : Nat) : Int) = some ((n : Int), 0) := by
  intro d
  induction d with
  | zero =>
    intro k i hd hk
    obtain ⟨k, rfl⟩ : ∃ m, k = m + 1 := ⟨k - 1, by omega⟩
    simp only [gf_Log.l0]
    rw [show i = n by omega, if_pos rfl]
  | succ d ih =>
    intro k i hd hk
    obtain ⟨k, rfl⟩ : ∃ m, k = m + 1 := ⟨k - 1, by omega⟩
    simp only [gf_Log.l0]
    have hne : ¬ ((GfM.g i : Nat) : Int) = ((GfM.g n : Nat) : Int) := by
      intro h
      have := GfM.g_inj i n (by omega) hn (by omega)
      omega
    rw [if_neg hne, show (2 : Int) = ((2 : Nat) : Int) from rfl, mul_ok k _ _ (by omega) (GfM.g_lt i) (by omega)]
    simp only [Option.bind_some]
    rw [wrap_inc _ (by omega) (by omega), show (2 : Nat) = GfM.g 1 from rfl, GfM.g_add]
    exact ih k (i + 1) (by omega) (by omega)
theorem log_ok (k n : Nat) (hk : 400 ≤ k) (hn : n < 255) : gf_Log.f k ((GfM.g n : Nat) : Int) = some ((n : Int), 0) := by
  unfold gf_Log.f
  rw [if_neg (by have := GfM.g_ne_zero n; omega)]
  exact log_l0 n hn n k 0 (by omega) (by omega)
theorem div_ok (k a b : Nat) (hk : 400 ≤ k) (ha : a < 256) (hb : b < 256) (h0 : b ≠ 0) : gf_Div.f k a b = some (((GfM.M a (GfM.P b 254) : Nat) : Int), 0) := by
  unfold gf_Div.f
  rw [if_neg (by omega), pow_ok k b (-1) hk hb h0, show ((-1 : Int) % 255).toNat = 254 by decide]
  simp only [Option.bind_some]
  rw [mul_ok k a _ (by omega) ha (GfM.P_lt b 254)]
  rfl
theorem known_ok (k : Nat) (hk : 400 ≤ k) : flintlaw5_known.f k = some true := by
  unfold flintlaw5_known.f
  have h1 : gf_Div.f k 1 2 = some (142, 0) := by
    rw [show (1 : Int) = ((1 : Nat) : Int) from rfl, show (2 : Int) = ((2 : Nat) : Int) from rfl, div_ok k 1 2 hk (by omega) (by omega) (by omega), show GfM.M 1 (GfM.P 2 254) = 142 by decide +kernel]
    rfl
  have h2 : gf_Log.f k 1 = some (0, 0) := log_ok k 0 hk (by omega)
  have h3 : gf_Mul.f k 128 2 = some 29 := by
    rw [show (128 : Int) = ((128 : Nat) : Int) from rfl, show (2 : Int) = ((2 : Nat) : Int) from rfl, mul_ok k 128 2 (by omega) (by omega) (by omega), show GfM.M 128 2 = 29 by decide +kernel]
    rfl
  have h4 : gf_Pairs.f 3 = some ([[1, 1, 1], [1, 2, 4]], 0) := by decide +kernel
  rw [h1, h2, h3, h4]
  rfl
/-! the reference -/
theorem ofInt_i64 (a : Nat) (ha : a < 9223372036854775808) : (BitVec.ofInt 64 (a : Int)).toNat = a := by
  rw [BitVec.ofInt_natCast, BitVec.toNat_ofNat]; exact Nat.mod_eq_of_lt (by omega)
theorem i64_and_nat (a b : Nat) (ha : a < 9223372036854775808) (hb : b < 9223372036854775808) : bits .and .i64 (a : Int) (b : Int) = ((a &&& b : Nat) : Int) := by
  have hx : a &&& b < 2 ^ 63 := Nat.and_lt_two_pow _ (by omega)
  show IntKind.i64.wrap ((BitVec.ofInt 64 (a : Int) &&& BitVec.ofInt 64 (b : Int)).toNat : Int) = _
  rw [BitVec.toNat_and, ofInt_i64 a ha, ofInt_i64 b hb, IntKind.wrap_i64]
  omega
theorem i64_xor_nat (a b : Nat) (ha : a < 9223372036854775808) (hb : b < 9223372036854775808) : bits .xor .i64 (a : Int) (b : Int) = ((a ^^^ b : Nat) : Int) := by
  have hx : a ^^^ b < 2 ^ 63 := Nat.xor_lt_two_pow (by omega) (by omega)
  show IntKind.i64.wrap ((BitVec.ofInt 64 (a : Int) ^^^ BitVec.ofInt 64 (b : Int)).toNat : Int) = _
  rw [BitVec.toNat_xor, ofInt_i64 a ha, ofInt_i64 b hb, IntKind.wrap_i64]
  omega
theorem ml_zero : ∀ (d a o : Nat), GfM.ml d a 0 o = o
  | 0, _, _ => rfl
  | d + 1, a, o => by
    simp only [GfM.ml]
    rw [if_neg (by omega)]
    exact ml_zero d _ o
theorem rmul_l0 : ∀ (d k a b o : Nat), d ≤ 8 → b < 2 ^ d → d < k → a < 256 → o < 256 → flintref5_Mul.l0 k o a b = some ((GfM.ml d a b o : Nat) : Int) := by
  intro d
  induction d with
  | zero =>
    intro k a b o _ hb hk ha ho
    obtain ⟨k, rfl⟩ : ∃ m, k = m + 1 := ⟨k - 1, by omega⟩
    have : b = 0 := by simpa using hb
    simp only [flintref5_Mul.l0]
    rw [if_neg (by omega)]
    have : (o : Int) % 256 = o := by omega
    rw [this]
    rfl
  | succ d ih =>
    intro k a b o h8 hb hk ha ho
    obtain ⟨k, rfl⟩ : ∃ m, k = m + 1 := ⟨k - 1, by omega⟩
    by_cases hb0 : b = 0
    · rw [hb0, ml_zero]
      simp only [flintref5_Mul.l0]
      rw [if_neg (by omega)]
      have : (o : Int) % 256 = o := by omega
      rw [this]
    · have hbd : b / 2 < 2 ^ d := by rw [Nat.pow_succ] at hb; omega
      have h256 : b < 256 := by
        have : (2 : Nat) ^ (d + 1) ≤ 2 ^ 8 := Nat.pow_le_pow_right (by omega) h8
        omega
      have hx := GfM.xt_lt a ha
      have hxo := GfM.xor_lt o a ho ha
      have hand : bits .and .i64 (b : Int) 1 = ((b % 2 : Nat) : Int) := by
        rw [show (1 : Int) = ((1 : Nat) : Int) from rfl, i64_and_nat b 1 (by omega) (by omega), Nat.and_one_is_mod]
      have hw : wrap64 ((a : Int) * 2) = ((2 * a : Nat) : Int) := by unfold wrap64; omega
      have hbx : 128 ≤ a → bits .xor .i64 ((2 * a : Nat) : Int) 285 = ((GfM.xt a : Nat) : Int) := fun h => by
        rw [show (285 : Int) = ((285 : Nat) : Int) from rfl, i64_xor_nat _ _ (by omega) (by omega), GfM.xt_form a ha, show a / 128 = 1 by omega]
      have hlx : a < 128 → ((2 * a : Nat) : Int) = ((GfM.xt a : Nat) : Int) := fun h => by
        unfold GfM.xt; rw [if_pos h]
      have hd2 : ((b : Int) / 2) = ((b / 2 : Nat) : Int) := by omega
      simp only [flintref5_Mul.l0]
      rw [if_pos (by omega), hand, hw, hd2, i64_xor_nat o a (by omega) (by omega)]
      simp only [GfM.ml]
      by_cases e : b % 2 = 1
      · rw [if_pos (by omega), if_pos e]
        by_cases h : 128 ≤ a
        · rw [if_pos (by omega), hbx h]
          exact ih k _ _ _ (by omega) hbd (by omega) hx hxo
        · rw [if_neg (by omega), hlx (by omega)]
          exact ih k _ _ _ (by omega) hbd (by omega) hx hxo
      · rw [if_neg (by omega), if_neg e]
        by_cases h : 128 ≤ a
        · rw [if_pos (by omega), hbx h]
          exact ih k _ _ _ (by omega) hbd (by omega) hx ho
        · rw [if_neg (by omega), hlx (by omega)]
          exact ih k _ _ _ (by omega) hbd (by omega) hx ho
theorem w64 (a : Nat) (h : a < 256) : wrap64 (a : Int) = a := by unfold wrap64; omega
theorem rmul_ok (k a b : Nat) (hk : 9 ≤ k) (ha : a < 256) (hb : b < 256) : flintref5_Mul.f k a b = some ((GfM.M a b : Nat) : Int) := by
  unfold flintref5_Mul.f
  rw [w64 a ha, w64 b hb]
  exact rmul_l0 8 k a b 0 (by omega) hb (by omega) ha (by omega)
theorem rinv_l0 (a : Nat) (ha : a < 256) : ∀ (d k i : Nat), d + i = 254 → d + 20 < k → flintref5_inverse.l0 k a ((GfM.P a i : Nat) : Int) i = some ((GfM.P a 254 : Nat) : Int) := by
  intro d
  induction d with
  | zero =>
    intro k i hd hk
    obtain ⟨k, rfl⟩ : ∃ m, k = m + 1 := ⟨k - 1, by omega⟩
    simp only [flintref5_inverse.l0]
    rw [if_neg (by omega), show i = 254 by omega]
  | succ d ih =>
    intro k i hd hk
    obtain ⟨k, rfl⟩ : ∃ m, k = m + 1 := ⟨k - 1, by omega⟩
    simp only [flintref5_inverse.l0]
    rw [if_pos (by omega), rmul_ok k _ _ (by omega) (GfM.P_lt a i) ha]
    simp only [Option.bind_some]
    rw [wrap_inc _ (by omega) (by omega)]
    exact ih k (i + 1) (by omega) (by omega)
theorem rinv_ok (k a : Nat) (hk : 400 ≤ k) (ha : a < 256) : flintref5_inverse.f k a = some ((GfM.P a 254 : Nat) : Int) := rinv_l0 a ha 254 k 0 (by omega) (by omega)
theorem rdiv_ok (k a b : Nat) (hk : 400 ≤ k) (ha : a < 256) (hb : b < 256) (h0 : b ≠ 0) : flintref5_Div.f k a b = some (((GfM.M a (GfM.P b 254) : Nat) : Int), 0) := by
  unfold flintref5_Div.f
  rw [if_neg (by omega), rinv_ok k b hk hb]
  simp only [Option.bind_some]
  rw [rmul_ok k a _ (by omega) ha (GfM.P_lt b 254)]
  rfl
theorem rpow_l0 (a : Nat) (ha : a < 256) (n : Nat) (hn : n ≤ 255) : ∀ (d k i : Nat), d + i = n → d + 20 < k → flintref5_Pow.l0 k a n ((GfM.P a i : Nat) : Int) i = some (((GfM.P a n : Nat) : Int), 0) := by
  intro d
  induction d with
  | zero =>
    intro k i hd hk
    obtain ⟨k, rfl⟩ : ∃ m, k = m + 1 := ⟨k - 1, by omega⟩
    simp only [flintref5_Pow.l0]
    rw [if_neg (by omega), show i = n by omega]
  | succ d ih =>
    intro k i hd hk
    obtain ⟨k, rfl⟩ : ∃ m, k = m + 1 := ⟨k - 1, by omega⟩
    simp only [flintref5_Pow.l0]
    rw [if_pos (by omega), rmul_ok k _ _ (by omega) (GfM.P_lt a i) ha]
    simp only [Option.bind_some]
    rw [wrap_inc _ (by omega) (by omega)]
    exact ih k (i + 1) (by omega) (by omega)
theorem rpow_ok (k a : Nat) (n : Int) (hk : 400 ≤ k) (ha : a < 256) (h0 : a ≠ 0) : flintref5_Pow.f k a n = some (((GfM.P a (n % 255).toNat : Nat) : Int), 0) := by
  unfold flintref5_Pow.f
  rw [if_neg (by omega)]
  obtain ⟨k, rfl⟩ : ∃ m, k = m + 1 := ⟨k - 1, by omega⟩
  simp only [flintref5_Pow.j0]
  obtain ⟨r, hr, he⟩ : ∃ r : Nat, r < 255 ∧ (n % 255) = r := ⟨(n % 255).toNat, by omega, by omega⟩
  have hp : flintref5_Pow.l0 k a (r : Int) 1 0 = some (((GfM.P a r : Nat) : Int), 0) := rpow_l0 a ha r (by omega) r k 0 (by omega) (by omega)
  rw [tmod_of n r he, he, show ((r : Int)).toNat = r from rfl]
  by_cases h : 0 ≤ n ∨ r = 0
  · rw [if_pos h, if_neg (by omega)]
    exact hp
  · rw [if_neg h, if_pos (by omega), show wrap64 ((r : Int) - 255 + 255) = r by unfold wrap64; omega]
    exact hp
theorem rpow_zero (k : Nat) (n : Int) : flintref5_Pow.f k 0 n = some (if n = 0 then 1 else 0, if n < 0 then 1 else 0) := by
  unfold flintref5_Pow.f
  rw [if_pos rfl]
  by_cases e : n = 0
  · rw [if_neg (by omega), if_pos e, if_pos e, if_neg (by omega)]
  · by_cases h : n < 0
    · rw [if_pos h, if_neg e, if_pos h]
    · rw [if_neg h, if_neg e, if_neg e, if_neg h]
theorem rlog_l0 (n : Nat) (hn : n < 255) : ∀ (d k i : Nat), d + i = n → d + 20 < k → flintref5_Log.l0 k ((GfM.g n : Nat) : Int) ((GfM.g i : Nat) : Int) i = some ((n : Int), 0) := by
  intro d
  induction d with
  | zero =>
    intro k i hd hk
    obtain ⟨k, rfl⟩ : ∃ m, k = m + 1 := ⟨k - 1, by omega⟩
    simp only [flintref5_Log.l0]
    rw [show i = n by omega, if_pos rfl]
  | succ d ih =>
    intro k i hd hk
    obtain ⟨k, rfl⟩ : ∃ m, k = m + 1 := ⟨k - 1, by omega⟩
    simp only [flintref5_Log.l0]
    have hne : ¬ ((GfM.g i : Nat) : Int) = ((GfM.g n : Nat) : Int) := by
      intro h
      have := GfM.g_inj i n (by omega) hn (by omega)
      omega
    rw [if_neg hne, show (2 : Int) = ((2 : Nat) : Int) from rfl, rmul_ok k _ _ (by omega) (GfM.g_lt i) (by omega)]
    simp only [Option.bind_some]
    rw [wrap_inc _ (by omega) (by omega), show (2 : Nat) = GfM.g 1 from rfl, GfM.g_add]
    exact ih k (i + 1) (by omega) (by omega)
theorem rlog_ok (k n : Nat) (hk : 400 ≤ k) (hn : n < 255) : flintref5_Log.f k ((GfM.g n : Nat) : Int) = some ((n : Int), 0) := by
  unfold flintref5_Log.f
  rw [if_neg (by have := GfM.g_ne_zero n; omega)]
  exact rlog_l0 n hn n k 0 (by omega) (by omega)
end Go.Proofs.Ytgoacbbaiigpeaa.GaFacts
