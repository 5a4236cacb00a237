/-
  Has: the binary search, and what is elided.
-/
import Derived.Test.YtpfkfnphjbgohaaPEax2
set_option linter.unusedVariables false
set_option linter.unusedSimpArgs false
namespace Go.Proofs.Ytpfkfnphjbgohaa.El
open Go.RowKit Go.Proofs.YtpfkfnphjbgohaaW.PrintWords Go.Proofs.YtpfkfnphjbgohaaW.PrintLast Go.Proofs.YtpfkfnphjbgohaaW.PrintMore Go.Proofs.Ytpfkfnphjbgohaa.PEa
attribute [local go_sem] binS_leq binS_gtr binS_geq max2_int min2_int max_two min_two maxS_two minS_two
def cmpS (a b : ByteArray) : Int := if a < b then -1 else if b < a then 1 else 0
theorem cmp36 (w : World) (a b : ByteArray) : Calls Try.prog 36 #[.string a, .string b] w fun r w' => r = .returned (.int .i64 (cmpS a b)) ∧ Drawn0 w w' := by
  refine cmp_Compare_string.calls a b _ w ?_
  have h1 : ∀ x : ByteArray, cmp_isNaN_string.f x = some false := fun x => by simp [cmp_isNaN_string.f]
  rw [cmp_Compare_string.f, h1, h1]
  simp only [Option.bind_some, Bool.false_eq_true, if_false]
  unfold cmpS
  by_cases h : a < b
  · rw [if_pos (less_true.mpr h), if_pos h]
  · rw [if_neg (fun g => h (less_true.mp g)), if_neg h]
    by_cases h' : b < a
    · rw [if_pos (less_true.mpr h'), if_pos h']
    · rw [if_neg (fun g => h' (less_true.mp g)), if_neg h']
set_option maxHeartbeats 2000000 in
theorem cmp35 (w : World) (e : S27) (key : ByteArray) : Calls Try.prog 35 #[.agg #[.string e.f0, .string e.f1, .int .u64 e.f2], .string key] w fun r w' => r = .returned (.int .i64 (cmpS e.f0 key)) ∧ Below w.heap.size w w' := by
  have hc := Aside0.mk cmp36
  go_enter Try.func35, Try.ntmps35
  go_wp2_with (first
    | (go_at_call 36; refine (hc.out _ e.f0 key).mono ?_; rintro r w2 ⟨rfl, hb1⟩; have HB := Aside0.mk (below_then (below_alloc (Below.refl _ _) _) (below_alloc (Below.refl _ _) _).size hb1.below); clear hb1))
  go_ret
  exact ⟨rfl, HB.out⟩
def Srt (xs : List S27) : Prop := ∀ i j : Nat, i < j → j < xs.length → (rd_T27 xs i).f0 < (rd_T27 xs j).f0
/-- What the search finds: the first place from which on Lo is not below the key, and whether Lo is the key there. -/
def Found (xs : List S27) (key : ByteArray) (m : Nat) (is : Bool) : Prop :=
  m ≤ xs.length ∧ (∀ k : Nat, k < m → (rd_T27 xs k).f0 < key) ∧ (∀ k : Nat, m ≤ k → k < xs.length → key ≤ (rd_T27 xs k).f0) ∧ (is = true ↔ m < xs.length ∧ (rd_T27 xs m).f0 = key)
def FoundQ (w : World) (xs : List S27) (key : ByteArray) (r : Ending) (w' : World) : Prop :=
  ∃ m is, r = .returned (.tuple #[.int .i64 (m : Nat), .bool is]) ∧ Found xs key m is ∧ Below w.heap.size w w'
set_option maxHeartbeats 4000000 in
set_option maxRecDepth 100000 in
theorem search34 (w : World) (A : Option Addr) (c : Nat) (xs : List S27) (key : ByteArray) (hC : Kd.C k27 w A xs.length xs) (hl : xs.length ≤ 1000000) (hS : Srt xs) :
    Calls Try.prog 34 #[.slice A xs.length c, .string key, .func (.func 35) #[] #[]] w (FoundQ w xs key) := by
  have hc := Aside0.mk cmp35
  obtain ⟨n, hn⟩ : ∃ n, xs.length = n := ⟨_, rfl⟩
  rw [hn] at hC hl ⊢
  have HC := Aside0.mk hC
  have HN := Aside0.mk hn
  have HS := Aside0.mk hS
  clear hC hn hS
  go_enter Try.func34, Try.ntmps34
  go_wp2
  go_loopw [9, 10] (fun i j W => ∃ a b : Nat, i = .int .i64 a ∧ j = .int .i64 b ∧ a ≤ b ∧ b ≤ n ∧ Aside0 (∀ k : Nat, k < a → (rd_T27 xs k).f0 < key) ∧ Aside0 (∀ k : Nat, b ≤ k → k < n → key ≤ (rd_T27 xs k).f0) ∧ Aside0 (Below w.heap.size w W)) (fun i j _ => (intOf j).toNat - (intOf i).toNat)
  case atStart => exact ⟨0, n, rfl, rfl, Nat.zero_le _, Nat.le_refl _, ⟨fun k hk => absurd hk (Nat.not_lt_zero _)⟩, ⟨fun k h1 h2 => by omega⟩, ⟨Below.refl _ _⟩⟩
  case round =>
    obtain ⟨a, b, rfl, rfl, hab, hbn, HA, HB, HW⟩ := hrel
    by_cases hlt : a < b
    · have h1 : a ≤ (a + b) / 2 := by omega
      have h2 : (a + b) / 2 < b := by omega
      obtain ⟨x, hx⟩ : ∃ x, rd_T27 xs (((a + b) / 2 : Nat) : Int) = x := ⟨_, rfl⟩
      have hC := Kd.C_below HC.out HW.out
      obtain ⟨ad, eA, x0, x1, x2⟩ := at_T27 hC (((a + b) / 2 : Nat) : Int) (by omega) (by omega)
      subst eA
      rw [hx] at x0 x1 x2
      rw [Int.toNat_natCast] at x0 x1 x2
      have HX := Aside0.mk hx
      clear hx hC
      by_cases hk : x.f0 < key
      · have HCM : Aside0 (cmpS x.f0 key = -1) := ⟨by rw [cmpS, if_pos hk]⟩
        have HK := Aside0.mk hk
        clear hk
        go_wp2_with (go_at_call 35; refine (hc.out _ x key).mono ?_; rintro r w2 ⟨rfl, hb1⟩; rw [HCM.out]; replace HW := Aside0.mk (below_then HW.out HW.out.size hb1); clear hb1)
        go_roundw
        case measure => simp [intOf]; omega
        case rel =>
          refine ⟨(a + b) / 2 + 1, b, by go_num, rfl, by omega, hbn, ⟨fun k hk => ?_⟩, HB, HW⟩
          rcases Nat.lt_or_ge k ((a + b) / 2) with h | h
          · have h3 := HS.out k ((a + b) / 2) h (by rw [HN.out]; omega)
            rw [HX.out] at h3
            have := HK.out
            grind
          · obtain rfl : k = (a + b) / 2 := by omega
            rw [HX.out]
            exact HK.out
      · obtain ⟨v, hv, hv0⟩ : ∃ v, cmpS x.f0 key = v ∧ ¬ v < 0 := ⟨_, rfl, by unfold cmpS; rw [if_neg hk]; split <;> omega⟩
        have HCM := Aside0.mk hv
        have HK := Aside0.mk hk
        clear hk hv
        go_wp2_with (go_at_call 35; refine (hc.out _ x key).mono ?_; rintro r w2 ⟨rfl, hb1⟩; rw [HCM.out]; replace HW := Aside0.mk (below_then HW.out HW.out.size hb1); clear hb1)
        go_roundw
        case measure => simp [intOf]; omega
        case rel =>
          refine ⟨a, (a + b) / 2, rfl, by go_num, by omega, by omega, HA, ⟨fun k h1 h2 => ?_⟩, HW⟩
          rcases Nat.lt_or_ge ((a + b) / 2) k with h | h
          · have h3 := HS.out ((a + b) / 2) k h (by rw [HN.out]; omega)
            rw [HX.out] at h3
            have := HK.out
            grind
          · obtain rfl : k = (a + b) / 2 := by omega
            rw [HX.out]
            have := HK.out
            grind
    · obtain rfl : a = b := by omega
      by_cases hm : a < n
      · obtain ⟨x, hx⟩ : ∃ x, rd_T27 xs (a : Int) = x := ⟨_, rfl⟩
        have hC := Kd.C_below HC.out HW.out
        obtain ⟨ad, eA, x0, x1, x2⟩ := at_T27 hC (a : Int) (by omega) (by omega)
        subst eA
        rw [hx] at x0 x1 x2
        rw [Int.toNat_natCast] at x0 x1 x2
        have HX := Aside0.mk hx
        clear hx hC
        by_cases hk : x.f0 = key
        · have HCM : Aside0 (cmpS x.f0 key = 0) := ⟨by rw [cmpS, if_neg (by grind), if_neg (by grind)]⟩
          have HK := Aside0.mk hk
          clear hk
          go_wp2_with (go_at_call 35; refine (hc.out _ x key).mono ?_; rintro r w2 ⟨rfl, hb1⟩; rw [HCM.out]; replace HW := Aside0.mk (below_then HW.out HW.out.size hb1); clear hb1)
          go_ret2
          exact ⟨a, true, rfl, ⟨by rw [HN.out]; omega, HA.out, by rw [HN.out]; exact HB.out, by rw [HN.out, HX.out]; exact ⟨fun _ => ⟨hm, HK.out⟩, fun _ => rfl⟩⟩, HW.out⟩
        · obtain ⟨v, hv, hv0⟩ : ∃ v, cmpS x.f0 key = v ∧ (v == 0) = false := ⟨_, rfl, by unfold cmpS; split; rfl; split; rfl; exfalso; grind⟩
          have HCM := Aside0.mk hv
          have HK := Aside0.mk hk
          clear hk hv
          go_wp2_with (go_at_call 35; refine (hc.out _ x key).mono ?_; rintro r w2 ⟨rfl, hb1⟩; rw [HCM.out]; replace HW := Aside0.mk (below_then HW.out HW.out.size hb1); clear hb1)
          go_ret2
          exact ⟨a, false, rfl, ⟨by rw [HN.out]; omega, HA.out, by rw [HN.out]; exact HB.out, by rw [HN.out, HX.out]; exact ⟨fun h => (by cases h), fun h => absurd h.2 HK.out⟩⟩, HW.out⟩
      · go_wp2_with fail
        go_ret2
        exact ⟨a, false, rfl, ⟨by rw [HN.out]; omega, HA.out, by rw [HN.out]; exact HB.out, by rw [HN.out]; exact ⟨fun h => (by cases h), fun h => absurd h.1 hm⟩⟩, HW.out⟩
/-- A plain set: stretches in order, apart, none empty. -/
structure Pln (xs : List S27) : Prop where
  ord : xs.Pairwise (fun x y => x.f1 ≤ y.f0)
  full : ∀ x ∈ xs, x.f0 < x.f1
def inB (key : ByteArray) (seq : Int) (x : S27) : Bool := decide (x.f0 ≤ key ∧ key < x.f1 ∧ seq ≤ x.f2)
def hasB (xs : List S27) (key : ByteArray) (seq : Int) : Bool := xs.any (inB key seq)
theorem rd_mem {xs : List S27} {i : Nat} (h : i < xs.length) : rd_T27 xs (i : Int) ∈ xs := by
  have : rd_T27 xs (i : Int) = xs[i] := by simp [rd_T27, h]
  rw [this]; exact List.getElem_mem h
theorem mem_rd {xs : List S27} {x : S27} (h : x ∈ xs) : ∃ i : Nat, i < xs.length ∧ rd_T27 xs (i : Int) = x := by
  obtain ⟨i, hi, e⟩ := List.getElem_of_mem h
  exact ⟨i, hi, by simp [rd_T27, hi, e]⟩
theorem Pln.le {xs : List S27} (h : Pln xs) {i j : Nat} (hij : i < j) (hj : j < xs.length) : (rd_T27 xs i).f1 ≤ (rd_T27 xs j).f0 := by
  have := List.pairwise_iff_getElem.mp h.ord i j (by omega) hj hij
  simpa [rd_T27, hj, (show i < xs.length by omega)] using this
theorem Pln.srt {xs : List S27} (h : Pln xs) : Srt xs := fun i j hij hj => by
  have h1 := h.le hij hj
  have h2 := h.full _ (rd_mem (show i < xs.length by omega))
  grind
theorem inB_t {key : ByteArray} {seq : Int} {x : S27} (h : x.f0 ≤ key) (h' : Op.bytesLess key.toList x.f1.toList = true) : inB key seq x = decide (seq ≤ x.f2) := by
  rw [inB, decide_eq_decide]
  exact ⟨fun h => h.2.2, fun g => ⟨h, h', g⟩⟩
theorem inB_f {key : ByteArray} {seq : Int} {x : S27} (h' : ¬ Op.bytesLess key.toList x.f1.toList = true) : inB key seq x = false := by
  rw [inB, decide_eq_false_iff_not]
  exact fun h => h' h.2.1
theorem hasB_true {xs : List S27} {key : ByteArray} {seq : Int} : hasB xs key seq = true ↔ ∃ x ∈ xs, x.f0 ≤ key ∧ key < x.f1 ∧ seq ≤ x.f2 := by
  simp [hasB, inB]
/-- What is found decides. -/
theorem has_found {xs : List S27} (hp : Pln xs) {key : ByteArray} {seq : Int} {m : Nat} (hF : Found xs key m true) : hasB xs key seq = inB key seq (rd_T27 xs m) := by
  obtain ⟨h0, h1, h2, h3⟩ := hF
  obtain ⟨hm, hk⟩ := h3.mp rfl
  rw [Bool.eq_iff_iff, hasB_true]
  simp only [inB, decide_eq_true_eq]
  constructor
  · rintro ⟨x, hx, a, b, c⟩
    obtain ⟨i, hi, rfl⟩ := mem_rd hx
    rcases Nat.lt_trichotomy i m with h | rfl | h
    · have := hp.le h hm; grind
    · exact ⟨a, b, c⟩
    · have := hp.le h hi; have := hp.full _ (rd_mem hm); grind
  · exact fun h => ⟨_, rd_mem hm, h⟩
theorem has_none {xs : List S27} (hp : Pln xs) {key : ByteArray} {seq : Int} (hF : Found xs key 0 false) : hasB xs key seq = false := by
  obtain ⟨h0, h1, h2, h3⟩ := hF
  rw [← Bool.not_eq_true, hasB_true]
  rintro ⟨x, hx, a, b, c⟩
  obtain ⟨i, hi, rfl⟩ := mem_rd hx
  have h4 := h2 i (Nat.zero_le _) hi
  have h5 : (rd_T27 xs (i : Int)).f0 = key := by grind
  rcases Nat.eq_zero_or_pos i with rfl | hp0
  · have := h3.mpr ⟨hi, h5⟩; cases this
  · have := hp.srt 0 i hp0 hi
    have h6 := h2 0 (Nat.le_refl _) (by omega)
    grind
theorem has_below {xs : List S27} (hp : Pln xs) {key : ByteArray} {seq : Int} {m : Nat} (hF : Found xs key (m + 1) false) : hasB xs key seq = inB key seq (rd_T27 xs m) := by
  obtain ⟨h0, h1, h2, h3⟩ := hF
  have hm : m < xs.length := by omega
  rw [Bool.eq_iff_iff, hasB_true]
  simp only [inB, decide_eq_true_eq]
  constructor
  · rintro ⟨x, hx, a, b, c⟩
    obtain ⟨i, hi, rfl⟩ := mem_rd hx
    rcases Nat.lt_trichotomy i m with h | rfl | h
    · have := hp.le h hm; have := h1 m (by omega); grind
    · exact ⟨a, b, c⟩
    · have h4 := h2 i (by omega) hi
      have h5 : (rd_T27 xs (i : Int)).f0 = key := by grind
      rcases Nat.lt_or_ge (m + 1) i with h6 | h6
      · have := hp.srt (m + 1) i h6 hi
        have h7 := h2 (m + 1) (Nat.le_refl _) (by omega)
        grind
      · obtain rfl : i = m + 1 := by omega
        have := h3.mpr ⟨hi, h5⟩; cases this
  · exact fun h => ⟨_, rd_mem hm, h⟩
set_option maxHeartbeats 4000000 in
set_option maxRecDepth 100000 in
theorem has13 (w : World) (g : Nat) (A : Option Addr) (c : Nat) (xs : List S27) (key : ByteArray) (seq : Int) (hs : w.heap[g]? = some (.cells #[.slice A xs.length c] 64 (0, 0))) (hC : Kd.C k27 w A xs.length xs) (hl : xs.length ≤ 1000000) (hp : Pln xs) :
    Calls Try.prog 13 #[.pointer (some ⟨g, 0, none⟩), .string key, .int .u64 seq] w fun r w' => r = .returned (.bool (hasB xs key seq)) ∧ Below w.heap.size w w' := by
  have hc := Aside0.mk (search34 w A c xs key hC hl hp.srt)
  obtain ⟨n, hn⟩ : ∃ n, xs.length = n := ⟨_, rfl⟩
  have hcell := cell_of_one hs
  rw [hn] at hC hl hs hc hcell
  have HC := Aside0.mk hC
  have HN := Aside0.mk hn
  have HS := Aside0.mk hs
  have HP := Aside0.mk hp
  clear hC hn hs hp
  go_enter Try.func13, Try.ntmps13
  go_wp2_with fail
  go_at_call 34
  refine hc.out.mono ?_
  rintro r w2 ⟨m, is, rfl, hF, hb⟩
  have hcell2 := cell_of_one (blk_below HS.out hb)
  have HB := Aside0.mk hb
  have HF := Aside0.mk hF
  have hC2 := Kd.C_below HC.out HB.out
  have hmn : m ≤ n := by rw [← HN.out]; exact hF.1
  clear hb
  cases is
  · clear hF
    rcases m with _ | m
    · have HT := Aside0.mk (has_none (seq := seq) HP.out HF.out)
      clear hC2
      go_wp2_with fail
      go_ret
      exact ⟨by rw [HT.out]; rfl, HB.out⟩
    · have HT := Aside0.mk (has_below (seq := seq) HP.out HF.out)
      obtain ⟨x, hx⟩ : ∃ x, rd_T27 xs (m : Int) = x := ⟨_, rfl⟩
      obtain ⟨ad, eA, x0, x1, x2⟩ := at_T27 hC2 (m : Int) (by omega) (by omega)
      subst eA
      rw [hx] at x0 x1 x2 HT
      rw [Int.toNat_natCast] at x0 x1 x2
      have HX := Aside0.mk hx
      clear hx hC2
      have HL := Aside0.mk (show x.f0 ≤ key from by have := HF.out.2.1 m (by omega); rw [HX.out] at this; grind)
      go_wp2_with fail
      all_goals
        go_ret
        first
        | exact ⟨by rw [HT.out, inB_t HL.out (by assumption)]; rfl, HB.out⟩
        | exact ⟨by rw [HT.out, inB_f (by assumption)]; rfl, HB.out⟩
  · have HT := Aside0.mk (has_found (seq := seq) HP.out HF.out)
    have hm : m < n := by rw [← HN.out]; exact (hF.2.2.2.mp rfl).1
    clear hF
    obtain ⟨x, hx⟩ : ∃ x, rd_T27 xs (m : Int) = x := ⟨_, rfl⟩
    obtain ⟨ad, eA, x0, x1, x2⟩ := at_T27 hC2 (m : Int) (by omega) (by omega)
    subst eA
    rw [hx] at x0 x1 x2 HT
    rw [Int.toNat_natCast] at x0 x1 x2
    have HX := Aside0.mk hx
    clear hx hC2
    have HL := Aside0.mk (show x.f0 ≤ key from by have := (HF.out.2.2.2.mp rfl).2; rw [HX.out] at this; grind)
    go_wp2_with fail
    all_goals
      go_ret
      first
      | exact ⟨by rw [HT.out, inB_t HL.out (by assumption)]; rfl, HB.out⟩
      | exact ⟨by rw [HT.out, inB_f (by assumption)]; rfl, HB.out⟩
end Go.Proofs.Ytpfkfnphjbgohaa.El
