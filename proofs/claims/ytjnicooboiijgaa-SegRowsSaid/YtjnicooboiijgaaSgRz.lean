/-
  Where, Span and Heads of the reference. (Plain: no program.)
-/
import Derived.Test.YtjnicooboiijgaaMRb
import Derived.Test.YtjnicooboiijgaaPSgx9
import Derived.Test.YtjnicooboiijgaaPSgx10
set_option linter.unusedVariables false
set_option linter.unusedSimpArgs false
namespace Go.Proofs.Ytjnicooboiijgaa.Sg
open Go.RowKit Go.Proofs.YtjnicooboiijgaaW.PrintWords Go.Proofs.YtjnicooboiijgaaW.PrintLast Go.Proofs.YtjnicooboiijgaaW.PrintMore Go.Proofs.Ytjnicooboiijgaa.PSg Go.Proofs.Ytjnicooboiijgaa.Gf Go.Proofs.Ytjnicooboiijgaa.Rs
theorem rroom_f {K k p s : Nat} (hK : 0 < K) (hf : Fits k p s) : flintref9_Room.f K k p s = some ((k * roomN s * (p - 1) : Nat) : Int) := by
  have h1 := row_lt hf
  have h2 := hf.p1
  have h3 := hf.p2
  have h4 : k * roomN s * (p - 1) ≤ 2097152 * 4095 := Nat.mul_le_mul h1 (by omega)
  unfold flintref9_Room.f
  rw [rrow_k (by omega) hf, Option.bind_some]
  congr 1
  rw [show wrap64 ((p : Int) - 1) = ((p - 1 : Nat) : Int) by unfold wrap64; omega, ← Int.natCast_mul]
  exact i64n (by omega)
theorem where_same {k p s : Nat} (hf : Fits k p s) (a : Int) : ∃ x y z e, seg_Where.f 1 k p s a = some (x, y, z, e) ∧ flintref9_Where.f 2 k p s a = some (x, y, z, e) := by
  have h1 := room_pos hf.s1 hf.s2
  have hN : 0 < k * roomN s := Nat.mul_pos (by have := hf.k1; omega) (by omega)
  have ej : ∀ b : Bool, seg_Where.j0 1 a b k p s = flintref9_Where.j0 2 a b k p s := fun b => by
    unfold seg_Where.j0 flintref9_Where.j0
    cases b
    · simp only [if_false, Bool.false_eq_true]
      rw [room_eq s hf.s1 hf.s2, rroom_k (by omega) hf.s1 hf.s2, row_eq hf, rrow_k (by omega) hf]
    · simp only [if_true]
  have ef : seg_Where.f 1 k p s a = flintref9_Where.f 2 k p s a := by
    unfold seg_Where.f flintref9_Where.f
    rw [check_eq hf, rcheck_k (by omega) hf, room_of hf, rroom_f (by omega) hf]
    simp only [Option.bind_some, if_true, ej]
  by_cases h : 0 ≤ a ∧ a < ((k * roomN s * (p - 1) : Nat) : Int)
  · obtain ⟨n, rfl⟩ : ∃ n : Nat, a = n := ⟨a.toNat, by omega⟩
    rw [where_of hf (by omega)] at ef
    exact ⟨_, _, _, _, where_of hf (by omega), ef.symm⟩
  · have : seg_Where.f 1 k p s a = some (0, 0, 0, 1) := by
      unfold seg_Where.f
      rw [check_eq hf, room_of hf]
      simp only [Option.bind_some, if_true]
      by_cases h0 : a < 0
      · rw [if_pos h0]; rfl
      · rw [if_neg h0]
        have : decide (a ≥ ((k * roomN s * (p - 1) : Nat) : Int)) = true := decide_eq_true (by omega)
        rw [this]; rfl
    rw [this] at ef
    exact ⟨_, _, _, _, this, ef.symm⟩
theorem span_same {k p s : Nat} (hf : Fits k p s) (a n : Int) (ha : (Lit.int .i64 a).wf = true) (hn : (Lit.int .i64 n).wf = true) : ∃ x y e, seg_Span.f 1 k p s a n = some (x, y, e) ∧ flintref9_Span.f 2 k p s a n = some (x, y, e) := by
  have h1 := room_pos hf.s1 hf.s2
  have h2 := row_lt hf
  have hM : k * roomN s * (p - 1) ≤ 2097152 * 4095 := Nat.mul_le_mul h2 (by have := hf.p2; omega)
  have ej : ∀ b : Bool, seg_Span.j0 1 a n b k p s = flintref9_Span.j0 2 a n b k p s := fun b => by
    unfold seg_Span.j0 flintref9_Span.j0
    cases b
    · simp only [if_false, Bool.false_eq_true]
      rw [row_eq hf, rrow_k (by omega) hf]
    · simp only [if_true]
  have ef : seg_Span.f 1 k p s a n = flintref9_Span.f 2 k p s a n := by
    unfold seg_Span.f flintref9_Span.f
    rw [check_eq hf, rcheck_k (by omega) hf, room_of hf, rroom_f (by omega) hf]
    simp only [Option.bind_some, if_true, ej]
  have bad : seg_Span.j0 1 a n true k p s = some (0, 0, 1) := rfl
  by_cases h : 1 ≤ n ∧ 0 ≤ a ∧ a + n ≤ ((k * roomN s * (p - 1) : Nat) : Int)
  · obtain ⟨a', rfl⟩ : ∃ q : Nat, a = q := ⟨a.toNat, by omega⟩
    obtain ⟨n', rfl⟩ : ∃ q : Nat, n = q := ⟨n.toNat, by omega⟩
    have := span_of hf (a := a') (n := n') (by omega) (by omega)
    rw [this] at ef
    exact ⟨_, _, _, this, ef.symm⟩
  · have : seg_Span.f 1 k p s a n = some (0, 0, 1) := by
      unfold seg_Span.f
      rw [check_eq hf, room_of hf]
      simp only [Option.bind_some, if_true, bad]
      by_cases h0 : n < 1
      · rw [if_pos h0]
      rw [if_neg h0]
      by_cases h1 : a < 0
      · rw [if_pos h1]
      rw [if_neg h1]
      by_cases h2 : a > ((k * roomN s * (p - 1) : Nat) : Int)
      · rw [if_pos h2]
      rw [if_neg h2]
      have : decide (n > wrap64 (((k * roomN s * (p - 1) : Nat) : Int) - a)) = true := decide_eq_true (by
        rw [i64w (by omega) (by omega)]
        omega)
      rw [this, bad]
    rw [this] at ef
    exact ⟨_, _, _, this, ef.symm⟩
/-- Where there is no shape. -/
theorem where_no {x y z : Int} (h : seg_Check.f x y z = some 1) (a : Int) : seg_Where.f 1 x y z a = some (0, 0, 0, 1) ∧ flintref9_Where.f 1 x y z a = some (0, 0, 0, 1) := by
  unfold seg_Where.f flintref9_Where.f
  rw [h, rcheck_no h]
  exact ⟨rfl, rfl⟩
theorem span_no {x y z : Int} (h : seg_Check.f x y z = some 1) (a n : Int) : seg_Span.f 1 x y z a n = some (0, 0, 1) ∧ flintref9_Span.f 1 x y z a n = some (0, 0, 1) := by
  unfold seg_Span.f flintref9_Span.f
  rw [h, rcheck_no h]
  exact ⟨rfl, rfl⟩
theorem or_byte (q : Nat) : ∃ b : Nat, b < 256 ∧ Go.bits .or .u8 ((q : Int) % 256) 128 = b := by
  have h : ∀ r : Fin 256, 0 ≤ Go.bits .or .u8 (r.val : Int) 128 ∧ Go.bits .or .u8 (r.val : Int) 128 < 256 := by decide +kernel
  have h1 := h ⟨q % 256, by omega⟩
  have e : ((q : Int) % 256) = (((⟨q % 256, by omega⟩ : Fin 256).val : Nat) : Int) := rfl
  rw [e]
  exact ⟨(Go.bits .or .u8 (((⟨q % 256, by omega⟩ : Fin 256).val : Nat) : Int) 128).toNat, by omega, by omega⟩
theorem bytes_snoc {xs : List Int} {b : Nat} (h : bytes xs = true) (hb : b < 256) : bytes (xs ++ [(b : Int)]) = true := by
  unfold bytes at *
  rw [List.all_append, h, Bool.true_and]
  simp
  omega
theorem number_ok : ∀ (d x : Nat) (xs : List Int), x < 128 ^ (d + 1) → xs.length + d ≤ 1000000 → bytes xs = true → ∃ r, (∀ K, d < K → flintref1_Number.f K xs (x : Int) = some r) ∧ r.length ≤ xs.length + d + 1 ∧ bytes r = true := by
  intro d
  induction d with
  | zero =>
    intro x xs hx hl hb
    refine ⟨xs ++ [((x % 256 : Nat) : Int)], fun K hK => ?_, by simp, bytes_snoc hb (by omega)⟩
    obtain ⟨K, rfl⟩ : ∃ n, K = n + 1 := ⟨K - 1, by omega⟩
    unfold flintref1_Number.f flintref1_Number.l0
    rw [if_neg (by omega), if_pos (by omega)]
    congr 2
  | succ d ih =>
    intro x xs hx hl hb
    by_cases h : x < 128
    · refine ⟨xs ++ [((x % 256 : Nat) : Int)], fun K hK => ?_, by simp only [List.length_append, List.length_singleton]; omega, bytes_snoc hb (by omega)⟩
      obtain ⟨K, rfl⟩ : ∃ n, K = n + 1 := ⟨K - 1, by omega⟩
      unfold flintref1_Number.f flintref1_Number.l0
      rw [if_neg (by omega), if_pos (by omega)]
      congr 2
    · obtain ⟨b, hb1, hb2⟩ := or_byte x
      obtain ⟨r, h1, h2, h3⟩ := ih (x / 128) (xs ++ [(b : Int)]) (by rw [Nat.div_lt_iff_lt_mul (by decide)]; rw [Nat.pow_succ] at hx; exact hx) (by rw [List.length_append, List.length_singleton]; omega) (bytes_snoc hb hb1)
      refine ⟨r, fun K hK => ?_, by rw [List.length_append, List.length_singleton] at h2; omega, h3⟩
      obtain ⟨K, rfl⟩ : ∃ n, K = n + 1 := ⟨K - 1, by omega⟩
      unfold flintref1_Number.f flintref1_Number.l0
      rw [if_pos (by omega), if_pos (by omega), hb2]
      exact h1 K (by omega)
/-- Row 0's payload. -/
theorem head_ok {k p s : Nat} (hf : Fits k p s) : ∃ t1 t2 t3, (∀ K, 3 < K → flintref1_Number.f K [] (k : Int) = some t1 ∧ flintref1_Number.f K t1 (p : Int) = some t2 ∧ flintref1_Number.f K t2 (s : Int) = some t3) ∧ t3.length ≤ 6 ∧ bytes t3 = true := by
  obtain ⟨t1, h1, l1, b1⟩ := number_ok 0 k [] (by have := hf.k2; omega) (by decide) rfl
  obtain ⟨t2, h2, l2, b2⟩ := number_ok 1 p t1 (by have := hf.p2; omega) (by simp at l1; omega) b1
  obtain ⟨t3, h3, l3, b3⟩ := number_ok 2 s t2 (by have := hf.s2; omega) (by simp at l1; omega) b2
  simp at l1
  exact ⟨t1, t2, t3, fun K hK => ⟨h1 K (by omega), h2 K (by omega), h3 K (by omega)⟩, by omega, b3⟩
theorem headOf_f {K k p s : Nat} (hf : Fits k p s) {t1 t2 t3 : List Int} (h1 : flintref1_Number.f K [] (k : Int) = some t1) (h2 : flintref1_Number.f K t1 (p : Int) = some t2) (h3 : flintref1_Number.f K t2 (s : Int) = some t3) : flintref9_HeadOf.f K k p s = some t3 := by
  have := hf.k2; have := hf.p2; have := hf.s2
  unfold flintref9_HeadOf.f
  rw [u64wrap k (by omega), u64wrap p (by omega), u64wrap s (by omega), h1, Option.bind_some, h2, Option.bind_some, h3, Option.bind_some]
theorem rheads_l0 {k p s seg : Nat} (hf : Fits k p s) (hseg : seg < 18446744073709551616) {t : List Int} (ht : ∀ K, 3 < K → flintref9_HeadOf.f K k p s = some t) (htl : t.length ≤ 6) (htb : bytes t = true) : ∀ (d i K : Nat), i + d = k + 2 → d + 140010 < K →
    flintref9_Heads.l0 K seg ((List.range i).map fun q => pageL s seg 0 q t) (i : Int) k p s = some ((List.range (k + 2)).map fun q => pageL s seg 0 q t, 0) := by
  have hk2 := hf.k2
  have hw : wrap64 ((k : Int) + 2) = ((k + 2 : Nat) : Int) := by unfold wrap64; omega
  have hrp := room_pos hf.s1 hf.s2
  intro d
  induction d with
  | zero =>
    intro i K hi hK
    obtain ⟨K, rfl⟩ : ∃ n, K = n + 1 := ⟨K - 1, by omega⟩
    unfold flintref9_Heads.l0
    rw [hw, if_neg (by omega)]
    rw [show i = k + 2 by omega]
  | succ d ih =>
    intro i K hi hK
    obtain ⟨K, rfl⟩ : ∃ n, K = n + 1 := ⟨K - 1, by omega⟩
    unfold flintref9_Heads.l0
    have hp := rpage_f K s seg 0 i 0 t hf.s1 hf.s2 hseg (by omega) (by omega) htb (by omega) (by omega)
    rw [show ((0 : Nat) : Int) = 0 from rfl] at hp
    rw [hw, if_pos (by omega), ht K (by omega), Option.bind_some, hp]
    simp only [Option.bind_some]
    rw [if_pos (by rw [List.length_map, List.length_range]; omega)]
    have ew : wrap64 ((i : Int) + 1) = ((i + 1 : Nat) : Int) := by unfold wrap64; omega
    rw [ew]
    have e : ((List.range i).map fun q => pageL s seg 0 q t) ++ [pageL s seg 0 i t] = (List.range (i + 1)).map fun q => pageL s seg 0 q t := by rw [List.range_succ, List.map_append]; rfl
    rw [e]
    exact ih (i + 1) K (by omega) (by omega)
theorem pagesL_rep {s seg m : Nat} {t : List Int} : pagesL s seg 0 (List.replicate m t) = (List.range m).map fun q => pageL s seg 0 q t := by
  unfold pagesL
  rw [List.length_replicate]
  refine List.map_congr_left fun i hi => ?_
  rw [List.mem_range] at hi
  congr 1
  simp [Gf.row, List.getD, hi]
theorem rheads_ok {k p s seg : Nat} (hf : Fits k p s) (hseg : seg < 18446744073709551616) {t : List Int} (ht : ∀ K, 3 < K → flintref9_HeadOf.f K k p s = some t) (htl : t.length ≤ 6) (htb : bytes t = true) : flintref9_Heads.f 200000 k p s seg = some (pagesL s seg 0 (List.replicate (k + 2) t), 0) := by
  have hk2 := hf.k2
  unfold flintref9_Heads.f
  rw [rcheck_k (by omega) hf, Option.bind_some, if_pos rfl, pagesL_rep]
  exact rheads_l0 hf hseg ht htl htb (k + 2) 0 200000 (by omega) (by omega)
theorem rheads_no {x y z seg : Int} (h : seg_Check.f x y z = some 1) : flintref9_Heads.f 1 x y z seg = some ([], 1) := by
  unfold flintref9_Heads.f
  rw [rcheck_no h]
  rfl
theorem rpages_no {x y z seg row : Int} (h : seg_Check.f x y z = some 1) (xs : List Int) : flintref9_Pages.f 1 x y z seg row xs = some ([], 1) := by
  unfold flintref9_Pages.f
  rw [rcheck_no h, Option.bind_some, if_neg (by decide)]
  exact rpages_true (by decide) _ _ _ _ _ _
end Go.Proofs.Ytjnicooboiijgaa.Sg
