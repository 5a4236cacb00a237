/-
  What the field's printed functions tell, program and reference: products, powers, quotients, logarithms.
-/
import Derived.Test.YtjolnjckgoilpaaRsPairs
import Derived.Test.YtjolnjckgoilpaaPRax2
namespace Go.Proofs.Ytjolnjckgoilpaa.GaFacts
open Go.RowKit Go.Proofs.Ytjolnjckgoilpaa.PRa Go.Proofs.YtjolnjckgoilpaaW.PrintWords Go.Proofs.YtjolnjckgoilpaaW.PrintLast

theorem byte {a : Int} (h : (Lit.int .u8 a).wf = true) : ∃ n : Nat, n < 256 ∧ a = n := by
  simp [Lit.wf, IntKind.min, IntKind.max, IntKind.signed, IntKind.bits] at h
  exact ⟨a.toNat, by omega, by omega⟩
theorem div_ok (k a b : Nat) (hk : 400 ≤ k) (ha : a < 256) (hb : b < 256) (h0 : b ≠ 0) : gf_Div.f k a b = some (((GfM.M a (GfM.P b 254) : Nat) : Int), 0) := by
  unfold gf_Div.f
  rw [if_neg (by omega), pow_ok k b (-1) hk hb h0, show ((-1 : Int) % 255).toNat = 254 by decide]
  simp only [Option.bind_some]
  rw [mul_ok k a _ (by omega) ha (GfM.P_lt b 254)]
  rfl
theorem ofInt_i64 (a : Nat) (ha : a < 9223372036854775808) : (BitVec.ofInt 64 (a : Int)).toNat = a := by
  rw [BitVec.ofInt_natCast, BitVec.toNat_ofNat]; exact Nat.mod_eq_of_lt (by omega)
theorem i64_and_nat (a b : Nat) (ha : a < 9223372036854775808) (hb : b < 9223372036854775808) : bits .and .i64 (a : Int) (b : Int) = ((a &&& b : Nat) : Int) := by
  have hx : a &&& b < 2 ^ 63 := Nat.and_lt_two_pow _ (by omega)
  show IntKind.i64.wrap ((BitVec.ofInt 64 (a : Int) &&& BitVec.ofInt 64 (b : Int)).toNat : Int) = _
  rw [BitVec.toNat_and, ofInt_i64 a ha, ofInt_i64 b hb, IntKind.wrap_i64]
  omega
theorem i64_xor_nat (a b : Nat) (ha : a < 9223372036854775808) (hb : b < 9223372036854775808) : bits .xor .i64 (a : Int) (b : Int) = ((a ^^^ b : Nat) : Int) := by
  have hx : a ^^^ b < 2 ^ 63 := Nat.xor_lt_two_pow (by omega) (by omega)
  show IntKind.i64.wrap ((BitVec.ofInt 64 (a : Int) ^^^ BitVec.ofInt 64 (b : Int)).toNat : Int) = _
  rw [BitVec.toNat_xor, ofInt_i64 a ha, ofInt_i64 b hb, IntKind.wrap_i64]
  omega
theorem ml_zero : ∀ (d a o : Nat), GfM.ml d a 0 o = o
  | 0, _, _ => rfl
  | d + 1, a, o => by
    simp only [GfM.ml]
    rw [if_neg (by omega)]
    exact ml_zero d _ o
theorem rmul_l0 : ∀ (d k a b o : Nat), d ≤ 8 → b < 2 ^ d → d < k → a < 256 → o < 256 → flintref5_Mul.l0 k o a b = some ((GfM.ml d a b o : Nat) : Int) := by
  intro d
  induction d with
  | zero =>
    intro k a b o _ hb hk ha ho
    obtain ⟨k, rfl⟩ : ∃ m, k = m + 1 := ⟨k - 1, by omega⟩
    have : b = 0 := by simpa using hb
    simp only [flintref5_Mul.l0]
    rw [if_neg (by omega)]
    have : (o : Int) % 256 = o := by omega
    rw [this]
    rfl
  | succ d ih =>
    intro k a b o h8 hb hk ha ho
    obtain ⟨k, rfl⟩ : ∃ m, k = m + 1 := ⟨k - 1, by omega⟩
    by_cases hb0 : b = 0
    · rw [hb0, ml_zero]
      simp only [flintref5_Mul.l0]
      rw [if_neg (by omega)]
      have : (o : Int) % 256 = o := by omega
      rw [this]
    · have hbd : b / 2 < 2 ^ d := by rw [Nat.pow_succ] at hb; omega
      have h256 : b < 256 := by
        have : (2 : Nat) ^ (d + 1) ≤ 2 ^ 8 := Nat.pow_le_pow_right (by omega) h8
        omega
      have hx := GfM.xt_lt a ha
      have hxo := GfM.xor_lt o a ho ha
      have hand : bits .and .i64 (b : Int) 1 = ((b % 2 : Nat) : Int) := by
        rw [show (1 : Int) = ((1 : Nat) : Int) from rfl, i64_and_nat b 1 (by omega) (by omega), Nat.and_one_is_mod]
      have hw : wrap64 ((a : Int) * 2) = ((2 * a : Nat) : Int) := by unfold wrap64; omega
      have hbx : 128 ≤ a → bits .xor .i64 ((2 * a : Nat) : Int) 285 = ((GfM.xt a : Nat) : Int) := fun h => by
        rw [show (285 : Int) = ((285 : Nat) : Int) from rfl, i64_xor_nat _ _ (by omega) (by omega), GfM.xt_form a ha, show a / 128 = 1 by omega]
      have hlx : a < 128 → ((2 * a : Nat) : Int) = ((GfM.xt a : Nat) : Int) := fun h => by
        unfold GfM.xt; rw [if_pos h]
      have hd2 : ((b : Int) / 2) = ((b / 2 : Nat) : Int) := by omega
      simp only [flintref5_Mul.l0]
      rw [if_pos (by omega), hand, hw, hd2, i64_xor_nat o a (by omega) (by omega)]
      simp only [GfM.ml]
      by_cases e : b % 2 = 1
      · rw [if_pos (by omega), if_pos e]
        by_cases h : 128 ≤ a
        · rw [if_pos (by omega), hbx h]
          exact ih k _ _ _ (by omega) hbd (by omega) hx hxo
        · rw [if_neg (by omega), hlx (by omega)]
          exact ih k _ _ _ (by omega) hbd (by omega) hx hxo
      · rw [if_neg (by omega), if_neg e]
        by_cases h : 128 ≤ a
        · rw [if_pos (by omega), hbx h]
          exact ih k _ _ _ (by omega) hbd (by omega) hx ho
        · rw [if_neg (by omega), hlx (by omega)]
          exact ih k _ _ _ (by omega) hbd (by omega) hx ho
theorem w64 (a : Nat) (h : a < 256) : wrap64 (a : Int) = a := by unfold wrap64; omega
theorem rmul_ok (k a b : Nat) (hk : 9 ≤ k) (ha : a < 256) (hb : b < 256) : flintref5_Mul.f k a b = some ((GfM.M a b : Nat) : Int) := by
  unfold flintref5_Mul.f
  rw [w64 a ha, w64 b hb]
  exact rmul_l0 8 k a b 0 (by omega) hb (by omega) ha (by omega)
end Go.Proofs.Ytjolnjckgoilpaa.GaFacts
