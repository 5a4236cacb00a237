/-
  gf.Pairs by hand, and what the field's printed functions tell.
-/
import Derived.Laws.BitsAllLaws
import Derived.Test.YtjolnjckgoilpaaGfMade
import Derived.Test.YtjolnjckgoilpaaGfMath
import Derived.Test.YtjolnjckgoilpaaPRax1
namespace Go.Proofs.Ytjolnjckgoilpaa.PRa
open Go.RowKit Go.Proofs.YtjolnjckgoilpaaW.PrintWords Go.Proofs.YtjolnjckgoilpaaW.PrintLast Go.Proofs.YtjolnjckgoilpaaW.PrintMore
attribute [local go_sem] max2_int min2_int max_two min_two max_three min_three max_four min_four
set_option linter.unusedVariables false
set_option linter.unusedSimpArgs false
/-! ### what the field's functions tell -/
theorem and_one (b : Nat) (hb : b < 256) : Go.bits .and .u8 (b : Int) 1 = ((b % 2 : Nat) : Int) := by
  rw [show (1 : Int) = ((1 : Nat) : Int) from rfl, u8_and_nat b 1 hb (by omega), Nat.and_one_is_mod]
theorem xor_nat (a b : Nat) (ha : a < 256) (hb : b < 256) : Go.bits .xor .u8 (a : Int) (b : Int) = ((a ^^^ b : Nat) : Int) := u8_xor_nat a b ha hb
theorem wrap_inc (i : Int) (h0 : 0 ≤ i) (h1 : i ≤ 1000000) : wrap64 (i + 1) = i + 1 := by unfold wrap64; omega
theorem xt_big (a : Nat) (ha : a < 256) (h : 128 ≤ a) : Go.bits .xor .u8 (((a : Int) * 2) % 256) 29 = ((GfM.xt a : Nat) : Int) := by
  have e : ((a : Int) * 2) % 256 = ((2 * a - 256 : Nat) : Int) := by omega
  rw [e, show (29 : Int) = ((29 : Nat) : Int) from rfl, xor_nat _ _ (by omega) (by omega)]
  unfold GfM.xt
  rw [if_neg (by omega)]
theorem xt_little (a : Nat) (h : a < 128) : ((a : Int) * 2) % 256 = ((GfM.xt a : Nat) : Int) := by
  unfold GfM.xt
  rw [if_pos h]
  omega
theorem mul_l0 : ∀ (d k : Nat) (a b o : Nat) (i : Int), (d : Int) + i = 8 → 0 ≤ i → d < k → a < 256 → b < 256 → o < 256 → gf_Mul.l0 k a b o i = some ((GfM.ml d a b o : Nat) : Int) := by
  intro d
  induction d with
  | zero =>
    intro k a b o i hd hi hk ha hb ho
    obtain ⟨k, rfl⟩ : ∃ m, k = m + 1 := ⟨k - 1, by omega⟩
    simp only [gf_Mul.l0]
    rw [if_neg (by omega)]
    rfl
  | succ d ih =>
    intro k a b o i hd hi hk ha hb ho
    obtain ⟨k, rfl⟩ : ∃ m, k = m + 1 := ⟨k - 1, by omega⟩
    simp only [gf_Mul.l0]
    rw [if_pos (by omega), and_one b hb, wrap_inc i hi (by omega), xor_nat o a ho ha]
    have hx := GfM.xt_lt a ha
    have hd2 : ((b : Int) / 2) = ((b / 2 : Nat) : Int) := by omega
    rw [hd2]
    simp only [GfM.ml]
    by_cases e : b % 2 = 1
    · rw [if_pos (by omega), if_pos e]
      by_cases h : 128 ≤ a
      · rw [if_pos (by omega), xt_big a ha h]
        exact ih k _ _ _ _ (by omega) (by omega) (by omega) hx (by omega) (GfM.xor_lt _ _ ho ha)
      · rw [if_neg (by omega), xt_little a (by omega)]
        exact ih k _ _ _ _ (by omega) (by omega) (by omega) hx (by omega) (GfM.xor_lt _ _ ho ha)
    · rw [if_neg (by omega), if_neg e]
      by_cases h : 128 ≤ a
      · rw [if_pos (by omega), xt_big a ha h]
        exact ih k _ _ _ _ (by omega) (by omega) (by omega) hx (by omega) ho
      · rw [if_neg (by omega), xt_little a (by omega)]
        exact ih k _ _ _ _ (by omega) (by omega) (by omega) hx (by omega) ho
theorem mul_ok (k a b : Nat) (hk : 9 ≤ k) (ha : a < 256) (hb : b < 256) : gf_Mul.f k a b = some ((GfM.M a b : Nat) : Int) := by
  unfold gf_Mul.f
  exact mul_l0 8 k a b 0 0 (by omega) (by omega) (by omega) ha hb (by omega)
theorem pow_l0 (a : Nat) (ha : a < 256) (n : Nat) (hn : n ≤ 255) : ∀ (d k i : Nat), d + i = n → d + 20 < k → gf_Pow.l0 k a ((GfM.P a i : Nat) : Int) n i = some (((GfM.P a n : Nat) : Int), 0) := by
  intro d
  induction d with
  | zero =>
    intro k i hd hk
    obtain ⟨k, rfl⟩ : ∃ m, k = m + 1 := ⟨k - 1, by omega⟩
    simp only [gf_Pow.l0]
    rw [if_neg (by omega), show i = n by omega]
  | succ d ih =>
    intro k i hd hk
    obtain ⟨k, rfl⟩ : ∃ m, k = m + 1 := ⟨k - 1, by omega⟩
    simp only [gf_Pow.l0]
    rw [if_pos (by omega), mul_ok k _ _ (by omega) (GfM.P_lt a i) ha]
    simp only [Option.bind_some]
    rw [wrap_inc _ (by omega) (by omega)]
    exact ih k (i + 1) (by omega) (by omega)
theorem tmod_of (n : Int) (r : Nat) (h : n % 255 = r) : n.tmod 255 = if 0 ≤ n ∨ r = 0 then (r : Int) else r - 255 := by
  rw [Int.tmod_eq_emod, h]
  by_cases h1 : 0 ≤ n
  · simp [h1]
  · by_cases h2 : r = 0
    · have : (255 : Int) ∣ n := by omega
      simp [this, h2]
    · have : ¬ (255 : Int) ∣ n := by omega
      simp [this, h2, h1]
theorem pow_ok (k a : Nat) (n : Int) (hk : 400 ≤ k) (ha : a < 256) (h0 : a ≠ 0) : gf_Pow.f k a n = some (((GfM.P a (n % 255).toNat : Nat) : Int), 0) := by
  unfold gf_Pow.f
  by_cases e : n = 0
  · rw [if_pos e, e]; rfl
  · rw [if_neg e, if_neg (by omega)]
    obtain ⟨k, rfl⟩ : ∃ m, k = m + 2 := ⟨k - 2, by omega⟩
    simp only [gf_Pow.j0]
    rw [if_neg (by decide), if_neg (by omega)]
    obtain ⟨r, hr, he⟩ : ∃ r : Nat, r < 255 ∧ (n % 255) = r := ⟨(n % 255).toNat, by omega, by omega⟩
    have hp : gf_Pow.l0 k a 1 (r : Int) 0 = some (((GfM.P a r : Nat) : Int), 0) := pow_l0 a ha r (by omega) r k 0 (by omega) (by omega)
    rw [tmod_of n r he, he, show ((r : Int)).toNat = r from rfl]
    by_cases h : 0 ≤ n ∨ r = 0
    · rw [if_pos h, if_neg (by omega)]
      exact hp
    · rw [if_neg h, if_pos (by omega), show wrap64 ((r : Int) - 255 + 255) = r by unfold wrap64; omega]
      exact hp
/-! ### gf.Pairs: the element's closure, the matrix -/
theorem pairs_zero (j : Nat) (w : World) : Calls Try.prog 43 #[.int .i64 0, .int .i64 j] w fun e w' => e = .returned (.int .u8 1) ∧ Drawn0 w w' := by
  go_enter Try.func43, Try.ntmps43
  go_wp2_with (go_at_call 44; refine (gf_Pow.calls 1000 2 0 1 0 _ (by decide)).mono ?_; rintro e w' ⟨rfl, ⟨nd, rfl⟩⟩)
  go_ret
  exact ⟨rfl, ⟨nd, rfl⟩⟩
theorem pairs_one (j : Nat) (hj : j < 255) (w : World) : Calls Try.prog 43 #[.int .i64 1, .int .i64 j] w fun e w' => e = .returned (.int .u8 ((GfM.g j : Nat) : Int)) ∧ Drawn0 w w' := by
  have hp : gf_Pow.f 1000 2 (j : Int) = some (((GfM.g j : Nat) : Int), 0) := by
    have h := pow_ok 1000 2 (j : Int) (by omega) (by omega) (by omega)
    rw [show ((j : Int) % 255).toNat = j by omega] at h
    have h2 := GfM.P_g 1 j
    rw [Nat.one_mul] at h2
    rw [← h2]
    exact h
  go_enter Try.func43, Try.ntmps43
  go_wp2_with (go_at_call 44; refine (gf_Pow.calls 1000 2 j _ 0 _ hp).mono ?_; rintro e w' ⟨rfl, ⟨nd, rfl⟩⟩)
  go_ret
  exact ⟨rfl, ⟨nd, rfl⟩⟩
def gf_Pairs.f (a0 : Int) : Option (List (List Int) × Int) := if a0 < 1 then some ([], 1) else if a0 > 255 then some ([], 1) else some (Gf.matrix 2 a0.toNat fun i j => ((GfM.g (i * j) : Nat) : Int), 0)
theorem gf_Pairs.calls (a0 : Int) (r1 : List (List Int)) (r2 : Int) (w : World) (h : gf_Pairs.f a0 = some (r1, r2)) :
    Calls Try.prog 20 #[.int .i64 a0] w fun e w' => ∃ v0_ : Value, e = .returned (.tuple #[v0_, .int .i64 r2]) ∧ Kd.S (Kd.slice 5 (Kd.int .u8)) 25 w' w.heap.size (fun _ => True) v0_ r1 ∧ Below w.heap.size w w' := by
  unfold gf_Pairs.f at h
  by_cases h1 : a0 < 1
  · rw [if_pos h1] at h
    simp only [Option.some.injEq, Prod.mk.injEq] at h
    obtain ⟨rfl, rfl⟩ := h
    have b1 : decide (a0 < 1) = true := decide_eq_true h1
    go_enter Try.func20, Try.ntmps20
    go_wp2
    go_ret2
    exact ⟨_, rfl, Kd.S_nil _ _ _ _ _, by first | exact Below.refl _ _ | exact pw_below_drewN (Below.refl _ _) _⟩
  · rw [if_neg h1] at h
    have b1 : decide (a0 < 1) = false := decide_eq_false h1
    by_cases h2 : a0 > 255
    · rw [if_pos h2] at h
      simp only [Option.some.injEq, Prod.mk.injEq] at h
      obtain ⟨rfl, rfl⟩ := h
      have b2 : decide (255 < a0) = true := decide_eq_true h2
      clear h1 h2
      go_enter Try.func20, Try.ntmps20
      go_wp2
      go_ret2
      exact ⟨_, rfl, Kd.S_nil _ _ _ _ _, by first | exact Below.refl _ _ | exact pw_below_drewN (Below.refl _ _) _⟩
    · rw [if_neg h2] at h
      simp only [Option.some.injEq, Prod.mk.injEq] at h
      obtain ⟨rfl, rfl⟩ := h
      have b2 : decide (255 < a0) = false := decide_eq_false h2
      obtain ⟨n, rfl⟩ : ∃ n : Nat, a0 = n := ⟨a0.toNat, by omega⟩
      have hn : n ≤ 255 := by omega
      have hn1 : 1 ≤ n := by omega
      clear h1 h2
      have hm := Gf.made_calls w 2 n 43 #[] (fun i j => ((GfM.g (i * j) : Nat) : Int)) (by omega) hn (Go.Proofs.enters_of Try.func43 (by kernel_rfl) rfl) (by
        intro i j hi hj W hW
        match i, hi with
        | 0, _ =>
          refine (pairs_zero j W).mono ?_
          rintro e w' ⟨rfl, hd⟩
          refine ⟨?_, hd.below⟩
          rw [Nat.zero_mul]
          rfl
        | 1, _ =>
          refine (pairs_one j (by omega) W).mono ?_
          rintro e w' ⟨rfl, hd⟩
          refine ⟨?_, hd.below⟩
          rw [Nat.one_mul])
      go_enter Try.func20, Try.ntmps20
      go_wp2_with (go_at_call 42; refine hm.mono ?_; rintro e w' ⟨b, rfl, hO⟩)
      go_ret2
      exact ⟨_, rfl, hO.owned (by omega) hn, hO.below⟩

end Go.Proofs.Ytjolnjckgoilpaa.PRa
