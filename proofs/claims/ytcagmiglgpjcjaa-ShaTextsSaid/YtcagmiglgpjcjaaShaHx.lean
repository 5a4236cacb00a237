/-
  Hashes as digits, and back: plain facts.
-/
import Derived.Test.YtcagmiglgpjcjaaShaDi
import Derived.Test.YtcagmiglgpjcjaaShaCm
import Derived.Sort.Walk0
set_option linter.unusedVariables false
set_option linter.unusedSimpArgs false
namespace Go.Proofs.Ytcagmiglgpjcjaa.Sh
open Go.RowKit Go.Proofs.YtcagmiglgpjcjaaW.PrintWords Go.Proofs.YtcagmiglgpjcjaaW.PrintLast Go.Proofs.YtcagmiglgpjcjaaW.PrintMore Go.Proofs.Ytcagmiglgpjcjaa.PSa

/-- A sum: 32 bytes. -/
def By (x : List Int) : Prop := x.length = 32 ∧ ∀ i, i < 32 → 0 ≤ at32 x i ∧ at32 x i < 256
theorem bt_str (l : List Int) (j : Nat) (h : j < l.length) (hr : 0 ≤ at32 l j ∧ at32 l j < 256) : bt (strOfNums l) (j : Int) = at32 l j := by
  have hs : (j : Int).toNat < (strOfNums l).size := by rw [strOfNums_size]; simpa using h
  have e : at32 l j = l[j] := by simp [at32, h]
  rw [e] at hr ⊢
  rw [← bt_at _ _ hs]
  have : (strOfNums l)[(j : Int).toNat]'hs = UInt8.ofNat (l[j]).toNat := by
    show (strOfNums l).data[(j : Int).toNat]'hs = _
    simp [strOfNums]
  rw [this]
  simp
  omega
theorem str_ext {l : List Int} {s : ByteArray} (hs : s.size = l.length) (h : ∀ j : Nat, j < l.length → at32 l j = bt s (j : Int)) : strOfNums l = s := by
  have hb : bytesOf s = l := by
    apply List.ext_getElem (by rw [bytesOf_length, hs])
    intro i h1 h2
    have := h i h2
    rw [← rd_bytesOf, rd] at this
    simp only [at32, Int.toNat_natCast] at this
    simp [h1, h2] at this
    exact this.symm
  rw [← hb]
  show (⟨((bytesOf s).map fun n => UInt8.ofNat n.toNat).toArray⟩ : ByteArray) = s
  cases s with
  | mk d =>
    congr 1
    simp [bytesOf]
    apply Array.ext (by simp)
    intro i h1 h2
    simp
theorem hexs_even (h : List Int) (k i : Nat) (hi : i < k) : at32 (hexs h k) (2 * i) = bt Dg16 (at32 h i / 16) := by
  induction k with
  | zero => omega
  | succ k ih =>
    have hl := hexs_length h k
    rw [hexs]
    by_cases hk : i < k
    · rw [← ih hk]
      simp only [at32, List.getD_eq_getElem?_getD]
      rw [List.getElem?_append_left (by omega)]
    · obtain rfl : i = k := by omega
      simp only [at32, List.getD_eq_getElem?_getD]
      rw [List.getElem?_append_right (by omega), hl]
      simp
theorem hexs_odd (h : List Int) (k i : Nat) (hi : i < k) : at32 (hexs h k) (2 * i + 1) = bt Dg16 (at32 h i % 16) := by
  induction k with
  | zero => omega
  | succ k ih =>
    have hl := hexs_length h k
    rw [hexs]
    by_cases hk : i < k
    · rw [← ih hk]
      simp only [at32, List.getD_eq_getElem?_getD]
      rw [List.getElem?_append_left (by omega)]
    · obtain rfl : i = k := by omega
      simp only [at32, List.getD_eq_getElem?_getD]
      rw [List.getElem?_append_right (by omega), hl]
      simp
/-- Digits and their values. -/
theorem ixd_dig (v : Int) (h0 : 0 ≤ v) (h1 : v < 16) : ixd (bt Dg16 v) = v := by
  obtain ⟨n, rfl⟩ := Int.eq_ofNat_of_zero_le h0
  have hn : n < 16 := by omega
  have : (List.range 16).all (fun n => decide (ixd (bt Dg16 (n : Int)) = (n : Int))) = true := by decide +kernel
  exact of_decide_eq_true ((List.all_eq_true.1 this) n (List.mem_range.2 hn))
theorem dig_ixd (c : Int) (h0 : 0 ≤ c) (h1 : c ≤ 255) (h : 0 ≤ ixd c) : bt Dg16 (ixd c) = c := by
  obtain ⟨n, rfl⟩ := Int.eq_ofNat_of_zero_le h0
  have : (List.range 256).all (fun n => decide (0 ≤ ixd (n : Int) → bt Dg16 (ixd (n : Int)) = (n : Int))) = true := by decide +kernel
  exact of_decide_eq_true ((List.all_eq_true.1 this) n (List.mem_range.2 (by omega))) h
theorem nib2 (a b : Int) (ha : 0 ≤ a ∧ a ≤ 15) (hb : 0 ≤ b ∧ b ≤ 15) : bits .or .u8 (bits .or .u8 (0 * 16 % 256) (a % 256) * 16 % 256) (b % 256) = 16 * a + b := by
  obtain ⟨n, rfl⟩ := Int.eq_ofNat_of_zero_le ha.1
  obtain ⟨m, rfl⟩ := Int.eq_ofNat_of_zero_le hb.1
  have : (List.range 16).all (fun n => (List.range 16).all fun m => decide (bits .or .u8 (bits .or .u8 (0 * 16 % 256) ((n : Int) % 256) * 16 % 256) ((m : Int) % 256) = 16 * (n : Int) + (m : Int))) = true := by decide +kernel
  exact of_decide_eq_true ((List.all_eq_true.1 ((List.all_eq_true.1 this) n (List.mem_range.2 (by omega)))) m (List.mem_range.2 (by omega)))
theorem at_set (l : List Int) (i j : Nat) (v : Int) (h : i < l.length) : at32 (l.set i v) j = if i = j then v else at32 l j := by
  simp only [at32, List.getD_eq_getElem?_getD, List.getElem?_set]
  by_cases e : i = j
  · subst e; simp [h]
  · simp [e]
theorem prOk_at {s : ByteArray} (h : prOk s = true) : s.size = 64 ∧ ∀ j : Nat, j < 64 → 0 ≤ ixd (bt s (j : Int)) := by
  simp only [prOk, Bool.and_eq_true, List.all_eq_true, List.mem_range, decide_eq_true_eq] at h
  exact h
theorem pst_at (s : ByteArray) (h : prOk s = true) : ∀ k, k ≤ 32 → ∀ j, at32 (pst s (2 * k)) j = if j < k then 16 * ixd (bt s ((2 * j : Nat) : Int)) + ixd (bt s ((2 * j + 1 : Nat) : Int)) else 0
  | 0, _, j => by
    rw [if_neg (by omega)]
    show at32 z32 j = 0
    simp only [at32, z32, List.getD_eq_getElem?_getD, List.getElem?_replicate]
    split <;> rfl
  | k + 1, hk, j => by
    have ih := pst_at s h k (by omega)
    have hp := (prOk_at h).2
    have r1 := ixd_range (bt s ((2 * k : Nat) : Int)) (bt_range _ _).1 (bt_range _ _).2
    have r2 := ixd_range (bt s ((2 * k + 1 : Nat) : Int)) (bt_range _ _).1 (bt_range _ _).2
    have p1 := hp (2 * k) (by omega)
    have p2 := hp (2 * k + 1) (by omega)
    have n2 := nib2 _ _ ⟨p1, r1.2⟩ ⟨p2, r2.2⟩
    have e1 : 2 * k / 2 = k := by omega
    have e2 : (2 * k + 1) / 2 = k := by omega
    have hl := pst_length s (2 * k)
    rw [show 2 * (k + 1) = (2 * k + 1) + 1 by omega, pst, pst, e1, e2]
    rw [at_set _ _ _ _ (by rw [List.length_set, hl]; omega), at_set _ _ k _ (by rw [hl]; omega), if_pos rfl, at_set _ _ _ _ (by rw [hl]; omega), ih k, if_neg (Nat.lt_irrefl k), n2]
    by_cases hj : k = j
    · subst hj
      rw [if_pos rfl, if_pos (by omega)]
    · rw [if_neg hj, if_neg hj, ih j]
      by_cases h2 : j < k
      · rw [if_pos h2, if_pos (by omega)]
      · rw [if_neg h2, if_neg (by omega)]
theorem prZ_by (s : ByteArray) : By (prZ s) := by
  by_cases h : prOk s = true
  · rw [prZ, if_pos h]
    refine ⟨pst_length s 64, fun i hi => ?_⟩
    have hp := (prOk_at h).2
    have := pst_at s h 32 (by omega) i
    rw [if_pos hi] at this
    have r1 := ixd_range (bt s ((2 * i : Nat) : Int)) (bt_range _ _).1 (bt_range _ _).2
    have r2 := ixd_range (bt s ((2 * i + 1 : Nat) : Int)) (bt_range _ _).1 (bt_range _ _).2
    have p1 := hp (2 * i) (by omega)
    have p2 := hp (2 * i + 1) (by omega)
    rw [show 2 * 32 = 64 from rfl] at this
    omega
  · rw [prZ, if_neg h]
    refine ⟨rfl, fun i hi => ?_⟩
    have : at32 z32 i = 0 := by
      simp only [at32, z32, List.getD_eq_getElem?_getD, List.getElem?_replicate]
      split <;> rfl
    rw [this]
    decide
/-- Digits to bytes to digits. -/
theorem hexs_prZ (s : ByteArray) (h : prOk s = true) : strOfNums (hexs (prZ s) 32) = s := by
  have hp := prOk_at h
  refine str_ext (by rw [hexs_length, hp.1]) fun j hj => ?_
  rw [hexs_length] at hj
  have hz : prZ s = pst s (2 * 32) := by rw [prZ, if_pos h]
  have hpa := pst_at s h 32 (by omega)
  rw [hz]
  obtain ⟨i, hi⟩ : ∃ i, j = 2 * i ∨ j = 2 * i + 1 := ⟨j / 2, by omega⟩
  have hi32 : i < 32 := by omega
  have r1 := ixd_range (bt s ((2 * i : Nat) : Int)) (bt_range _ _).1 (bt_range _ _).2
  have r2 := ixd_range (bt s ((2 * i + 1 : Nat) : Int)) (bt_range _ _).1 (bt_range _ _).2
  have p1 := hp.2 (2 * i) (by omega)
  have p2 := hp.2 (2 * i + 1) (by omega)
  have hv := hpa i
  rw [if_pos hi32] at hv
  rcases hi with rfl | rfl
  · rw [hexs_even _ _ _ hi32, hv, show (16 * ixd (bt s ((2 * i : Nat) : Int)) + ixd (bt s ((2 * i + 1 : Nat) : Int))) / 16 = ixd (bt s ((2 * i : Nat) : Int)) by omega]
    exact dig_ixd _ (bt_range _ _).1 (bt_range _ _).2 p1
  · rw [hexs_odd _ _ _ hi32, hv, show (16 * ixd (bt s ((2 * i : Nat) : Int)) + ixd (bt s ((2 * i + 1 : Nat) : Int))) % 16 = ixd (bt s ((2 * i + 1 : Nat) : Int)) by omega]
    exact dig_ixd _ (bt_range _ _).1 (bt_range _ _).2 p2
theorem dig_range (v : Int) : 0 ≤ bt Dg16 v ∧ bt Dg16 v < 256 := by
  have := bt_range Dg16 v
  omega
theorem hexs_range (x : List Int) (j : Nat) (hj : j < 64) : 0 ≤ at32 (hexs x 32) j ∧ at32 (hexs x 32) j < 256 := by
  obtain ⟨i, hi⟩ : ∃ i, j = 2 * i ∨ j = 2 * i + 1 := ⟨j / 2, by omega⟩
  rcases hi with rfl | rfl
  · rw [hexs_even _ _ _ (by omega)]; exact dig_range _
  · rw [hexs_odd _ _ _ (by omega)]; exact dig_range _
theorem hexs_bt (x : List Int) (j : Nat) (hj : j < 64) : bt (strOfNums (hexs x 32)) (j : Int) = at32 (hexs x 32) j :=
  bt_str _ _ (by rw [hexs_length]; omega) (hexs_range x j hj)
/-- Bytes to digits to bytes. -/
theorem prOk_hexs (x : List Int) (hx : By x) : prOk (strOfNums (hexs x 32)) = true := by
  refine prOk_yes (by rw [strOfNums_size, hexs_length]) fun j hj => ?_
  rw [hexs_bt x j hj]
  obtain ⟨i, hi⟩ : ∃ i, j = 2 * i ∨ j = 2 * i + 1 := ⟨j / 2, by omega⟩
  have hb := hx.2 i (by omega)
  rcases hi with rfl | rfl
  · rw [hexs_even _ _ _ (by omega), ixd_dig _ (by omega) (by omega)]; omega
  · rw [hexs_odd _ _ _ (by omega), ixd_dig _ (by omega) (by omega)]; omega
theorem ext32 {a b : List Int} (ha : a.length = 32) (hb : b.length = 32) (h : ∀ i, i < 32 → at32 a i = at32 b i) : a = b := by
  apply List.ext_getElem (by rw [ha, hb])
  intro i h1 h2
  have := h i (by omega)
  simpa [at32, h1, h2] using this
theorem prZ_hexs (x : List Int) (hx : By x) : prZ (strOfNums (hexs x 32)) = x := by
  have h := prOk_hexs x hx
  rw [prZ, if_pos h]
  refine ext32 (pst_length _ 64) hx.1 fun i hi => ?_
  have hp := pst_at _ h 32 (Nat.le_refl _) i
  have hb := hx.2 i hi
  have b1 := hexs_bt x (2 * i) (by omega)
  have b2 := hexs_bt x (2 * i + 1) (by omega)
  rw [hexs_even x 32 i hi] at b1
  rw [hexs_odd x 32 i hi] at b2
  rw [if_pos hi, b1, b2, ixd_dig (at32 x i / 16) (by omega) (by omega), ixd_dig (at32 x i % 16) (by omega) (by omega)] at hp
  refine Eq.trans hp ?_
  omega
theorem prE_hexs (x : List Int) (hx : By x) : prE (strOfNums (hexs x 32)) = 0 := by rw [prE, if_pos (prOk_hexs x hx)]
/-! ### The order of texts -/
def lexI : List Int → List Int → Bool
  | [], [] => false
  | [], _ :: _ => true
  | _ :: _, [] => false
  | a :: x, b :: y => decide (a < b) || (decide (a = b) && lexI x y)
theorem u8_lt (a b : Int) (ha : 0 ≤ a ∧ a < 256) (hb : 0 ≤ b ∧ b < 256) : (UInt8.ofNat a.toNat < UInt8.ofNat b.toNat ↔ a < b) ∧ (UInt8.ofNat a.toNat = UInt8.ofNat b.toNat ↔ a = b) := by
  obtain ⟨n, rfl⟩ := Int.eq_ofNat_of_zero_le ha.1
  obtain ⟨m, rfl⟩ := Int.eq_ofNat_of_zero_le hb.1
  constructor
  · rw [UInt8.lt_iff_toNat_lt]
    simp
    omega
  · rw [← UInt8.toNat_inj]
    simp
    omega
theorem bytesLess_nums : ∀ x y : List Int, (∀ a ∈ x, 0 ≤ a ∧ a < 256) → (∀ a ∈ y, 0 ≤ a ∧ a < 256) → Op.bytesLess (x.map fun n => UInt8.ofNat n.toNat) (y.map fun n => UInt8.ofNat n.toNat) = lexI x y
  | [], [], _, _ => rfl
  | [], _ :: _, _, _ => rfl
  | _ :: _, [], _, _ => rfl
  | a :: x, b :: y, hx, hy => by
    have ih := bytesLess_nums x y (fun c hc => hx c (by simp [hc])) (fun c hc => hy c (by simp [hc]))
    have hu := u8_lt a b (hx a (by simp)) (hy b (by simp))
    simp only [List.map_cons, Op.bytesLess, ih, lexI]
    by_cases h1 : a < b <;> by_cases h2 : a = b <;> simp [h1, h2, hu.1, hu.2]
theorem str_toList (l : List Int) : (strOfNums l).toList = l.map fun n => UInt8.ofNat n.toNat := by
  rw [Lib.toList_data, strOfNums_data]
/-- The digits as a list made byte by byte. -/
def hexl (x : List Int) : List Int := x.flatMap fun v => [bt Dg16 (v / 16), bt Dg16 (v % 16)]
theorem hexs_take (x : List Int) : ∀ k, k ≤ x.length → hexs x k = hexl (x.take k)
  | 0, _ => rfl
  | k + 1, h => by
    rw [hexs, hexs_take x k (by omega), List.take_add_one, hexl, hexl, List.flatMap_append]
    congr 1
    have hk : k < x.length := by omega
    simp [at32, hk]
theorem hexs_hexl (x : List Int) (hx : x.length = 32) : hexs x 32 = hexl x := by
  rw [hexs_take x 32 (by omega), ← hx, List.take_length]
theorem dig_lt (a b : Int) (ha : 0 ≤ a ∧ a < 16) (hb : 0 ≤ b ∧ b < 16) : (bt Dg16 a < bt Dg16 b ↔ a < b) ∧ (bt Dg16 a = bt Dg16 b ↔ a = b) := by
  obtain ⟨n, rfl⟩ := Int.eq_ofNat_of_zero_le ha.1
  obtain ⟨m, rfl⟩ := Int.eq_ofNat_of_zero_le hb.1
  have : (List.range 16).all (fun n => (List.range 16).all fun m => decide ((bt Dg16 (n : Int) < bt Dg16 (m : Int) ↔ (n : Int) < (m : Int)) ∧ (bt Dg16 (n : Int) = bt Dg16 (m : Int) ↔ (n : Int) = (m : Int)))) = true := by decide +kernel
  exact of_decide_eq_true ((List.all_eq_true.1 ((List.all_eq_true.1 this) n (List.mem_range.2 (by omega)))) m (List.mem_range.2 (by omega)))
theorem lex_hexl : ∀ x y : List Int, (∀ a ∈ x, 0 ≤ a ∧ a < 256) → (∀ a ∈ y, 0 ≤ a ∧ a < 256) → lexI (hexl x) (hexl y) = lexI x y
  | [], [], _, _ => rfl
  | [], _ :: _, _, _ => rfl
  | _ :: _, [], _, _ => rfl
  | a :: x, b :: y, hx, hy => by
    have ih := lex_hexl x y (fun c hc => hx c (by simp [hc])) (fun c hc => hy c (by simp [hc]))
    have ha := hx a (by simp)
    have hb := hy b (by simp)
    have h1 := dig_lt (a / 16) (b / 16) (by omega) (by omega)
    have h2 := dig_lt (a % 16) (b % 16) (by omega) (by omega)
    show lexI (bt Dg16 (a / 16) :: bt Dg16 (a % 16) :: hexl x) (bt Dg16 (b / 16) :: bt Dg16 (b % 16) :: hexl y) = _
    simp only [lexI, ih]
    rw [Bool.eq_iff_iff]
    simp only [Bool.or_eq_true, Bool.and_eq_true, decide_eq_true_eq, h1.1, h1.2, h2.1, h2.2]
    constructor
    · rintro (h | ⟨h, h' | ⟨h', h''⟩⟩)
      · left; omega
      · left; omega
      · right; exact ⟨by omega, h''⟩
    · rintro (h | ⟨h, h'⟩)
      · by_cases e : a / 16 < b / 16
        · exact Or.inl e
        · exact Or.inr ⟨by omega, Or.inl (by omega)⟩
      · exact Or.inr ⟨by omega, Or.inr ⟨by omega, h'⟩⟩
theorem By.mem {x : List Int} (h : By x) : ∀ a ∈ x, 0 ≤ a ∧ a < 256 := by
  intro a ha
  obtain ⟨i, hi, rfl⟩ := List.mem_iff_getElem.1 ha
  have := h.2 i (by rw [← h.1]; exact hi)
  simpa [at32, hi] using this
theorem less_sum (x y : List Int) (hx : By x) (hy : By y) : Op.bytesLess (strOfNums x).toList (strOfNums y).toList = lexI x y := by
  rw [str_toList, str_toList, bytesLess_nums x y hx.mem hy.mem]
theorem hexl_mem (x : List Int) : ∀ a ∈ hexl x, 0 ≤ a ∧ a < 256 := by
  intro a ha
  obtain ⟨v, _, hv⟩ := List.mem_flatMap.1 ha
  simp only [List.mem_cons, List.not_mem_nil, or_false] at hv
  rcases hv with rfl | rfl <;> exact dig_range _
theorem less_hex (x y : List Int) (hx : By x) (hy : By y) : Op.bytesLess (strOfNums (hexs x 32)).toList (strOfNums (hexs y 32)).toList = lexI x y := by
  rw [str_toList, str_toList, hexs_hexl x hx.1, hexs_hexl y hy.1, bytesLess_nums _ _ (hexl_mem x) (hexl_mem y), lex_hexl x y hx.mem hy.mem]
theorem nums_inj {x y : List Int} (hx : By x) (hy : By y) : ((strOfNums x).toList == (strOfNums y).toList) = decide (x = y) := by
  rw [Bool.eq_iff_iff, beq_iff_eq, decide_eq_true_eq]
  constructor
  · intro h
    rw [str_toList, str_toList] at h
    apply List.ext_getElem (by rw [hx.1, hy.1])
    intro i h1 h2
    have := congrArg (fun l => l[i]?) h
    simp only [List.getElem?_map, List.getElem?_eq_getElem h1, List.getElem?_eq_getElem h2, Option.map_some, Option.some.injEq] at this
    exact (u8_lt _ _ (hx.mem _ (List.getElem_mem h1)) (hy.mem _ (List.getElem_mem h2))).2.1 this
  · rintro rfl
    rfl
theorem lex_irrefl : ∀ x : List Int, lexI x x = false
  | [] => rfl
  | a :: x => by simp [lexI, lex_irrefl x]
/-- What Compare answers. -/
def cmI (x y : List Int) : Int := if lexI x y = true then -1 else if x = y then 0 else 1
theorem cmp_sum (x y : List Int) (hx : By x) (hy : By y) : (if x = y then (0 : Int) else cmpS (strOfNums x) (strOfNums y)) = cmI x y := by
  by_cases e : x = y
  · subst e
    simp [cmI, lex_irrefl]
  · rw [if_neg e, cmpS, less_sum x y hx hy, nums_inj hx hy, cmI]
    simp [e]
end Go.Proofs.Ytcagmiglgpjcjaa.Sh
