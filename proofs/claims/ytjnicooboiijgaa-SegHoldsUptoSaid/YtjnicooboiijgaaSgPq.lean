/-
  flintlaw9.pages on a row and itself.
-/
import Derived.Test.YtjnicooboiijgaaSgHq
set_option linter.unusedVariables false
set_option linter.unusedSimpArgs false
namespace Go.Proofs.Ytjnicooboiijgaa.Sg
open Go.RowKit Go.Proofs.YtjnicooboiijgaaW.PrintWords Go.Proofs.YtjnicooboiijgaaW.PrintLast Go.Proofs.YtjnicooboiijgaaW.PrintMore Go.Proofs.Ytjnicooboiijgaa.PSg Go.Proofs.Ytjnicooboiijgaa.Gf Go.Proofs.Ytjnicooboiijgaa.Rs
theorem pages_l0 (L : List (List Int)) (hL : L.length ≤ 1000) : ∀ (d i : Nat), i + d = L.length → flintlaw9_pages.l0 (d + 1) L L (i : Int) = some true := by
  intro d
  induction d with
  | zero =>
    intro i hi
    unfold flintlaw9_pages.l0
    rw [if_neg (by omega)]
  | succ d ih =>
    intro i hi
    unfold flintlaw9_pages.l0
    rw [if_pos (by omega), if_pos (by omega), if_pos (by omega), if_pos rfl]
    have e : wrap64 ((i : Int) + 1) = ((i + 1 : Nat) : Int) := by unfold wrap64; omega
    rw [e]
    exact ih (i + 1) (by omega)
theorem pages_self (L : List (List Int)) (hL : L.length ≤ 1000) : flintlaw9_pages.f (L.length + 1) L L = some true := by
  unfold flintlaw9_pages.f
  rw [if_pos rfl]
  exact pages_l0 L hL L.length 0 (by omega)
theorem pages25 (W : World) (L : List (List Int)) (hL : L.length ≤ 1000) (A0 A1 : Option Addr) (n0 n1 c0 c1 : Nat) (h0 : KR.C W A0 L.length L) (hc0 : L.length ≤ c0) (hn0 : n0 = L.length) (h1 : KR.C W A1 L.length L) (hc1 : L.length ≤ c1) (hn1 : n1 = L.length) :
    Calls Try.prog 25 #[.slice A0 n0 c0, .slice A1 n1 c1] W fun e w' => e = .returned (.bool true) ∧ Below W.heap.size W w' := by
  subst hn0 hn1
  exact (flintlaw9_pages.calls (L.length + 1) A0 c0 L A1 c1 L true W h0 hc0 h1 hc1 (pages_self L hL)).mono fun e w' ⟨h1, h2⟩ => ⟨h1, h2.below⟩
theorem wr1 {i : Nat} (h : i ≤ 40000) : wrap64 ((i : Int) + 1) = (i : Int) + 1 := by unfold wrap64; omega
theorem wr2 {i N o : Nat} (h : i * N = o) (ho : o ≤ 1000000) : wrap64 ((i : Int) * (N : Int)) = (o : Int) := by
  rw [← Int.natCast_mul, h]
  unfold wrap64
  omega
theorem wr3 {i N o : Nat} (h : i * N = o) (ho : o + N ≤ 1000000) : wrap64 (((i : Int) + 1) * (N : Int)) = (o : Int) + (N : Int) := by
  have e : ((i : Int) + 1) * (N : Int) = (o : Int) + (N : Int) := by rw [Int.add_mul, Int.one_mul, ← Int.natCast_mul, h]
  rw [e]
  unfold wrap64
  omega
theorem wr4 (o N : Nat) : ((o : Int) + (N : Int) - (o : Int)).toNat = N := by omega
/-- The rows of a stream that has room have room. -/
theorem filled_room {S : List Int} {N q : Nat} (hN : 0 < N) (h : S.length ≤ N * q) : (if S.length % N = 0 then S.length / N else S.length / N + 1) ≤ q := by
  have h1 := Nat.div_add_mod S.length N
  have h2 := Nat.mod_lt S.length hN
  by_cases hz : S.length % N = 0
  · rw [if_pos hz]
    rw [hz, Nat.add_zero] at h1
    rw [← h1] at h
    exact Nat.le_of_mul_le_mul_left h hN
  · rw [if_neg hz]
    have h3 : N * (S.length / N) < N * q := by omega
    exact Nat.lt_of_mul_lt_mul_left h3
theorem KI_cell {W : World} {g n : Nat} {xs : List Int} {y : Nat} (h : (Kd.int .i64).C W (some ⟨g, 0, none⟩) n xs) (hy : y < n) : W.cell? ⟨g, y, none⟩ = some (.int .i64 (xs.getD y 0)) := by
  obtain ⟨h1, h2, h3⟩ := h
  obtain ⟨ad, e, h4⟩ := h3 (by omega)
  obtain rfl := Option.some.inj e
  have hx : xs[y]? = some (xs.getD y 0) := by rw [List.getD_eq_getElem?_getD, List.getElem?_eq_getElem (by rw [h1]; exact hy)]; rfl
  obtain ⟨c, _, hk, h5⟩ := h4 y _ hx
  have hk' : c = [.int .i64 (xs.getD y 0)] := hk
  have := h5 0 (.int .i64 (xs.getD y 0)) (by rw [hk']; rfl)
  rw [Addr.add_mid] at this
  simpa [Kd.int, Kd.scalar] using this
theorem wr5 {a n : Nat} (h : a + n ≤ 1000000) : wrap64 ((a : Int) + (n : Int)) = (a : Int) + (n : Int) := by unfold wrap64; omega
/-- A stretch of a row. -/
theorem part_C {W : World} {b n c a m : Nat} {xs ys : List Int} (h : KB.C W (some ⟨b, 0, none⟩) n xs) (hm : 0 < m) (ha : a + m ≤ n) (hc : n ≤ c) (hy : (xs.drop a).take m = ys) : KB.C W (some ⟨b, a, none⟩) m ys := by
  have hl : xs.length = n := Kd.C_len h
  subst hl
  have h2 := Kd.C_drop (c := c) (m := a) h (by omega) hc
  have h3 := Kd.C_take (m := m) h2 (by rw [List.length_drop]; omega)
  rw [List.length_take, List.length_drop, Nat.min_eq_left (by omega), if_neg (by omega), hy, show (Option.map (fun x : Addr => x.add (a * KB.sz)) (some ⟨b, 0, none⟩)) = some ⟨b, a, none⟩ by
    show some ((⟨b, 0, none⟩ : Addr).add (a * 1)) = _
    rw [Nat.mul_one, Addr.add_mid, Nat.zero_add]] at h3
  exact h3
end Go.Proofs.Ytjnicooboiijgaa.Sg
