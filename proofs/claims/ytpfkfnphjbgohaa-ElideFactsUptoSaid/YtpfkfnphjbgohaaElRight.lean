/-
  Facts in order: the program's look and the reference's tell the same; rows that are the same.
-/
import Derived.Test.YtpfkfnphjbgohaaElRNst
set_option linter.unusedVariables false
set_option linter.unusedSimpArgs false
namespace Go.Proofs.Ytpfkfnphjbgohaa.El
open Go.RowKit Go.Proofs.YtpfkfnphjbgohaaW.PrintWords Go.Proofs.YtpfkfnphjbgohaaW.PrintLast Go.Proofs.YtpfkfnphjbgohaaW.PrintMore Go.Proofs.Ytpfkfnphjbgohaa.PEa
/-- What both compare to. -/
def cmpF (x y : S46) : Int := if x.f0 < y.f0 then -1 else if y.f0 < x.f0 then 1 else if y.f1 < x.f1 then -1 else if x.f1 < y.f1 then 1 else 0
theorem or2 (k : Nat) (a b : Int) : cmp_Or_int.f (k + 3) [a, b] = some (if a = 0 then b else a) := by
  unfold cmp_Or_int.f
  simp only [cmp_Or_int.l0, List.length_cons, List.length_nil]
  have e1 : wrap64 (0 + 1) = 1 := by unfold wrap64; decide
  have e2 : wrap64 (1 + 1) = 2 := by unfold wrap64; decide
  rw [e1, e2]
  by_cases ha : a = 0
  · by_cases hb : b = 0
    · simp [rd, ha, hb]
    · simp [rd, ha, hb]
  · simp [rd, ha]
theorem cmp_ref (x y : S46) : flintref11_Compare.f x.f0 x.f1 x.f2 y.f0 y.f1 y.f2 = some (cmpF x y) := by
  unfold flintref11_Compare.f cmpF
  by_cases h1 : x.f0 < y.f0
  · rw [if_pos (less_true.mpr h1), if_pos h1]
  · rw [if_neg (fun g => h1 (less_true.mp g)), if_neg h1]
    by_cases h2 : y.f0 < x.f0
    · rw [if_pos (less_true.mpr h2), if_pos h2]
    · rw [if_neg (fun g => h2 (less_true.mp g)), if_neg h2]
      by_cases h3 : y.f1 < x.f1
      · rw [if_pos (by omega), if_pos h3]
      · rw [if_neg (by omega), if_neg h3]
        by_cases h4 : x.f1 < y.f1
        · rw [if_pos h4, if_pos h4]
        · rw [if_neg h4, if_neg h4]
theorem cmp_own (k : Nat) (x y : S46) : fact_Compare.f (k + 3) x.f0 x.f1 x.f2 y.f0 y.f1 y.f2 = some (cmpF x y) := by
  unfold fact_Compare.f
  have hs : cmp_Compare_string.f x.f0 y.f0 = some (cmpS x.f0 y.f0) := by
    have h1 : ∀ x : ByteArray, cmp_isNaN_string.f x = some false := fun x => by simp [cmp_isNaN_string.f]
    rw [cmp_Compare_string.f, h1, h1]
    simp only [Option.bind_some, Bool.false_eq_true, if_false]
    unfold cmpS
    by_cases h : x.f0 < y.f0
    · rw [if_pos (less_true.mpr h), if_pos h]
    · rw [if_neg (fun g => h (less_true.mp g)), if_neg h]
      by_cases h' : y.f0 < x.f0
      · rw [if_pos (less_true.mpr h'), if_pos h']
      · rw [if_neg (fun g => h' (less_true.mp g)), if_neg h']
  have hu : cmp_Compare_uint64.f y.f1 x.f1 = some (if y.f1 < x.f1 then -1 else if x.f1 < y.f1 then 1 else 0) := by
    have h1 : ∀ x : Int, cmp_isNaN_uint64.f x = some false := fun x => by simp [cmp_isNaN_uint64.f]
    rw [cmp_Compare_uint64.f, h1, h1]
    simp only [Option.bind_some, Bool.false_eq_true, if_false]
    by_cases h : y.f1 < x.f1
    · rw [if_pos h, if_pos h]
    · rw [if_neg h, if_neg h]
      by_cases h' : x.f1 < y.f1
      · rw [if_pos (by omega), if_pos h']
      · rw [if_neg (by omega), if_neg h']
  rw [hs, hu]
  simp only [Option.bind_some, or2]
  congr 1
  unfold cmpS cmpF
  by_cases h1 : x.f0 < y.f0
  · simp [h1]
  · by_cases h2 : y.f0 < x.f0
    · simp [h1, h2]
    · simp [h1, h2]
theorem rights (l : List S46) (hl : l.length ≤ 1000000000) : ∀ (d i : Nat), 0 < i → i + d = max i l.length → ∃ r, fact_Right.l0 (d + 4) l i = some r ∧ flintref11_Right.l0 (d + 4) l i = some r
  | 0, i, hi, hd => by
    refine ⟨true, ?_, ?_⟩
    · simp only [fact_Right.l0]; rw [if_neg (by omega)]
    · simp only [flintref11_Right.l0]; rw [if_neg (by omega)]
  | d + 1, i, hi, hd => by
    have hlt : i < l.length := by omega
    have e1 : wrap64 ((i : Int) - 1) = ((i - 1 : Nat) : Int) := by unfold wrap64; omega
    have e2 : wrap64 ((i : Int) + 1) = ((i + 1 : Nat) : Int) := by unfold wrap64; omega
    obtain ⟨r, h1, h2⟩ := rights l hl d (i + 1) (by omega) (by omega)
    have u1 : fact_Right.l0 (d + 1 + 4) l i = if cmpF (rd_T46 l ((i - 1 : Nat) : Int)) (rd_T46 l i) ≥ 0 then some false else fact_Right.l0 (d + 4) l ((i + 1 : Nat) : Int) := by
      rw [show d + 1 + 4 = (d + 4) + 1 from by omega]
      simp only [fact_Right.l0]
      rw [if_pos (by omega), e1, e2, if_pos (by omega), if_pos (by omega), if_pos (by omega)]
      rw [show d + 4 = (d + 1) + 3 from by omega, cmp_own]
      rfl
    have u2 : flintref11_Right.l0 (d + 1 + 4) l i = if cmpF (rd_T46 l ((i - 1 : Nat) : Int)) (rd_T46 l i) ≥ 0 then some false else flintref11_Right.l0 (d + 4) l ((i + 1 : Nat) : Int) := by
      rw [show d + 1 + 4 = (d + 4) + 1 from by omega]
      simp only [flintref11_Right.l0]
      rw [if_pos (by omega), e1, e2, if_pos (by omega), if_pos (by omega), if_pos (by omega), cmp_ref]
      rfl
    by_cases hc : cmpF (rd_T46 l ((i - 1 : Nat) : Int)) (rd_T46 l i) ≥ 0
    · exact ⟨false, by rw [u1, if_pos hc], by rw [u2, if_pos hc]⟩
    · exact ⟨r, by rw [u1, if_neg hc]; exact h1, by rw [u2, if_neg hc]; exact h2⟩
/-- Both looks, over any row. -/
theorem right_both (l : List S46) (hl : l.length ≤ 1000000000) : ∃ r : Bool, (∀ (W : World) (A : Option Addr) (c : Nat), Kd.C k46 W A l.length l → l.length ≤ c → Calls Try.prog 39 #[.slice A l.length c] W fun e w' => e = .returned (.bool r) ∧ Below W.heap.size W w') ∧
    (∀ (W : World) (A : Option Addr) (c : Nat), Kd.C k46 W A l.length l → l.length ≤ c → Calls Try.prog 40 #[.slice A l.length c] W fun e w' => e = .returned (.bool r) ∧ Below W.heap.size W w') := by
  obtain ⟨r, h1, h2⟩ := rights l hl (l.length - 1) 1 (by omega) (by omega)
  exact ⟨r, fun W A c hC hc => fact_Right.calls _ A c l r W hC hc h1, fun W A c hC hc => flintref11_Right.calls _ A c l r W hC hc h2⟩
theorem sameF (x : S46) : flintlaw11_Same.f x.f0 x.f1 x.f2 x.f0 x.f1 x.f2 = some true := by
  unfold flintlaw11_Same.f
  rw [if_pos rfl, if_pos rfl]
  simp
theorem same_step (k : Nat) (l : List S46) (i : Int) (h0 : 0 ≤ i) (h1 : i < (l.length : Int)) : flintlaw11_SameRows.l0 (k + 1) l l i = flintlaw11_SameRows.l0 k l l (wrap64 (i + 1)) := by
  have e : flintlaw11_Same.f (rd_T46 l i).f0 (rd_T46 l i).f1 (rd_T46 l i).f2 (rd_T46 l i).f0 (rd_T46 l i).f1 (rd_T46 l i).f2 = some true := sameF _
  have u : flintlaw11_SameRows.l0 (k + 1) l l i = if i < (l.length : Int) then (if 0 ≤ i then (if i < (l.length : Int) then ((flintlaw11_Same.f (rd_T46 l i).f0 (rd_T46 l i).f1 (rd_T46 l i).f2 (rd_T46 l i).f0 (rd_T46 l i).f1 (rd_T46 l i).f2).bind fun t167 => (if t167 = true then (flintlaw11_SameRows.l0 k l l (wrap64 (i + 1))) else (some false))) else none) else none) else some true := rfl
  rw [u, if_pos h1, if_pos h0, if_pos h1, e]
  rfl
theorem same_end (k : Nat) (l : List S46) (i : Int) (h1 : ¬ i < (l.length : Int)) : flintlaw11_SameRows.l0 (k + 1) l l i = some true := by
  simp only [flintlaw11_SameRows.l0]
  rw [if_neg h1]
theorem same_rows (l : List S46) (hl : l.length ≤ 1000000000) (d : Nat) : ∀ i : Nat, i + d = l.length → flintlaw11_SameRows.l0 (d + 1) l l (i : Int) = some true := by
  induction d with
  | zero => intro i hd; exact same_end 0 l i (by omega)
  | succ d ih =>
    intro i hd
    have e2 : wrap64 ((i : Int) + 1) = ((i + 1 : Nat) : Int) := by unfold wrap64; omega
    rw [same_step (d + 1) l i (by omega) (by omega), e2]
    exact ih (i + 1) (by omega)
theorem same22 {w : World} {A B : Option Addr} {c d : Nat} {l : List S46} (hA : Kd.C k46 w A l.length l) (hc : l.length ≤ c) (hB : Kd.C k46 w B l.length l) (hd : l.length ≤ d) (hl : l.length ≤ 1000000000) :
    Calls Try.prog 22 #[.slice A l.length c, .slice B l.length d] w fun e w' => e = .returned (.bool true) ∧ Below w.heap.size w w' := by
  refine flintlaw11_SameRows.calls (l.length + 1) A c l B d l true w hA hc hB hd ?_
  rw [flintlaw11_SameRows.f, if_pos rfl]
  exact same_rows l hl l.length 0 (by omega)
/-- What Filter keeps. -/
def keepB (xs : List S27) (l : List S46) (k : Nat) : Bool := (decide (k = 0) || !((rd_T46 l ((k - 1 : Nat) : Int)).f0.toList == (rd_T46 l k).f0.toList)) && !hasB xs (rd_T46 l k).f0 (rd_T46 l k).f1
def filtF (xs : List S27) (l : List S46) : Nat → List S46
  | 0 => []
  | k + 1 => if keepB xs l k = true then filtF xs l k ++ [rd_T46 l k] else filtF xs l k
theorem filt_len (xs : List S27) (l : List S46) : ∀ k, (filtF xs l k).length ≤ k
  | 0 => Nat.le_refl _
  | k + 1 => by
    have := filt_len xs l k
    unfold filtF
    split
    · simp; omega
    · omega
end Go.Proofs.Ytpfkfnphjbgohaa.El
