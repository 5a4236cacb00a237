/-
  seg.Where, seg.Span, flintlaw9.SegPlaces.
-/
import Derived.Test.YtjnicooboiijgaaMSb
import Derived.Test.YtjnicooboiijgaaPSgx8
set_option linter.unusedVariables false
set_option linter.unusedSimpArgs false
namespace Go.Proofs.Ytjnicooboiijgaa.Sg
open Go.RowKit Go.Proofs.YtjnicooboiijgaaW.PrintWords Go.Proofs.YtjnicooboiijgaaW.PrintLast Go.Proofs.YtjnicooboiijgaaW.PrintMore Go.Proofs.Ytjnicooboiijgaa.PSg Go.Proofs.Ytjnicooboiijgaa.Gf Go.Proofs.Ytjnicooboiijgaa.Rs
/-- A shape is none, or one that fits. -/
theorem check_any (x y z : Int) : seg_Check.f x y z = some 1 ∨ ∃ k p s : Nat, Fits k p s ∧ x = k ∧ y = p ∧ z = s := by
  unfold seg_Check.f frame_Room.f
  by_cases h1 : x < 1
  · left; rw [if_pos h1]
  rw [if_neg h1]
  by_cases h2 : x > 32
  · left; rw [if_pos h2]
  rw [if_neg h2]
  by_cases h3 : y < 2
  · left; rw [if_pos h3]
  rw [if_neg h3]
  by_cases h4 : y > 4096
  · left; rw [if_pos h4]
  rw [if_neg h4]
  by_cases h5 : z < 32
  · left; rw [if_pos h5]; rfl
  rw [if_neg h5]
  by_cases h6 : z > 65536
  · left; rw [if_pos h6]; rfl
  right
  exact ⟨x.toNat, y.toNat, z.toNat, ⟨by omega, by omega, by omega, by omega, by omega, by omega⟩, by omega, by omega, by omega⟩
theorem i64w {x : Int} (h1 : -9223372036854775808 ≤ x) (h2 : x ≤ 9223372036854775807) : wrap64 x = x := by unfold wrap64; omega
theorem i64n {n : Nat} (h : n ≤ 9223372036854775807) : wrap64 ((n : Nat) : Int) = ((n : Nat) : Int) := i64w (by omega) (by omega)
theorem le1 {q a M : Nat} (h : q ≤ a) (ha : a ≤ M) (hM : M ≤ 9000000000) : 1 + q ≤ 9223372036854775807 := by omega
theorem le0 {q a M : Nat} (h : q ≤ a) (ha : a ≤ M) (hM : M ≤ 9000000000) : q ≤ 9223372036854775807 := by omega
theorem where_of {k p s : Nat} (hf : Fits k p s) {a : Nat} (ha : a < k * roomN s * (p - 1)) : seg_Where.f 1 k p s a = some (((1 + a / (k * roomN s) : Nat) : Int), ((a % (k * roomN s) / roomN s : Nat) : Int), ((a % roomN s : Nat) : Int), 0) := by
  have h1 := room_pos hf.s1 hf.s2
  have h2 := row_lt hf
  have hN : 0 < k * roomN s := Nat.mul_pos (by have := hf.k1; omega) (by omega)
  have hM : k * roomN s * (p - 1) ≤ 2097152 * 4095 := Nat.mul_le_mul h2 (by have := hf.p2; omega)
  unfold seg_Where.f
  rw [check_eq hf]
  simp only [Option.bind_some, if_true]
  rw [if_neg (by omega), room_of hf]
  simp only [Option.bind_some]
  unfold seg_Where.j0
  dsimp only
  rw [if_neg (by rw [decide_eq_true_eq]; omega), room_eq s hf.s1 hf.s2]
  simp only [Option.bind_some]
  rw [row_eq hf]
  simp only [Option.bind_some]
  rw [if_neg (by omega), if_neg (by omega), if_neg (by omega)]
  have e1 : Int.tdiv (a : Int) ((k * roomN s : Nat) : Int) = ((a / (k * roomN s) : Nat) : Int) := rfl
  have e2 : Int.tmod (a : Int) ((k * roomN s : Nat) : Int) = ((a % (k * roomN s) : Nat) : Int) := rfl
  have e3 : Int.tmod (a : Int) ((roomN s : Nat) : Int) = ((a % roomN s : Nat) : Int) := rfl
  rw [e1, e2, e3]
  have e4 : Int.tdiv ((a % (k * roomN s) : Nat) : Int) ((roomN s : Nat) : Int) = ((a % (k * roomN s) / roomN s : Nat) : Int) := rfl
  rw [e4]
  have b1 : a / (k * roomN s) ≤ a := Nat.div_le_self _ _
  have b2 : a % (k * roomN s) / roomN s ≤ a := Nat.le_trans (Nat.div_le_self _ _) (Nat.mod_le _ _)
  have hM9 : k * roomN s * (p - 1) ≤ 9000000000 := by omega
  have ha' : a ≤ k * roomN s * (p - 1) := by omega
  rw [i64n (le0 b1 ha' hM9), i64n (le0 b2 ha' hM9)]
  have e5 : (1 : Int) + ((a / (k * roomN s) : Nat) : Int) = ((1 + a / (k * roomN s) : Nat) : Int) := by push_cast; rfl
  rw [e5, i64n (le1 b1 ha' hM9)]
theorem span_of {k p s : Nat} (hf : Fits k p s) {a n : Nat} (h0 : 1 ≤ n) (ha : a + n ≤ k * roomN s * (p - 1)) : seg_Span.f 1 k p s a n = some (((1 + a / (k * roomN s) : Nat) : Int), ((1 + (a + n - 1) / (k * roomN s) : Nat) : Int), 0) := by
  have h1 := room_pos hf.s1 hf.s2
  have h2 := row_lt hf
  have hN : 0 < k * roomN s := Nat.mul_pos (by have := hf.k1; omega) (by omega)
  have hM : k * roomN s * (p - 1) ≤ 2097152 * 4095 := Nat.mul_le_mul h2 (by have := hf.p2; omega)
  unfold seg_Span.f
  rw [check_eq hf]
  simp only [Option.bind_some, if_true]
  rw [if_neg (by omega), if_neg (by omega), room_of hf]
  simp only [Option.bind_some]
  rw [if_neg (by omega)]
  rw [i64w (x := ((k * roomN s * (p - 1) : Nat) : Int) - (a : Int)) (by omega) (by omega)]
  unfold seg_Span.j0
  dsimp only
  rw [if_neg (by rw [decide_eq_true_eq]; omega), row_eq hf]
  simp only [Option.bind_some]
  rw [if_neg (by omega), if_neg (by omega)]
  rw [i64w (x := (a : Int) + (n : Int)) (by omega) (by omega)]
  rw [i64w (x := (a : Int) + (n : Int) - 1) (by omega) (by omega)]
  have e0 : (a : Int) + (n : Int) - 1 = ((a + n - 1 : Nat) : Int) := by omega
  rw [e0]
  have e1 : Int.tdiv (a : Int) ((k * roomN s : Nat) : Int) = ((a / (k * roomN s) : Nat) : Int) := rfl
  have e2 : Int.tdiv ((a + n - 1 : Nat) : Int) ((k * roomN s : Nat) : Int) = (((a + n - 1) / (k * roomN s) : Nat) : Int) := rfl
  rw [e1, e2]
  have b1 : a / (k * roomN s) ≤ a := Nat.div_le_self _ _
  have b2 : (a + n - 1) / (k * roomN s) ≤ a + n - 1 := Nat.div_le_self _ _
  have hM9 : k * roomN s * (p - 1) ≤ 9000000000 := by omega
  have ha' : a ≤ k * roomN s * (p - 1) := by omega
  have hb' : a + n - 1 ≤ k * roomN s * (p - 1) := by omega
  rw [i64n (le0 b1 ha' hM9), i64n (le0 b2 hb' hM9)]
  have e5 : (1 : Int) + ((a / (k * roomN s) : Nat) : Int) = ((1 + a / (k * roomN s) : Nat) : Int) := by push_cast; rfl
  have e6 : (1 : Int) + (((a + n - 1) / (k * roomN s) : Nat) : Int) = ((1 + (a + n - 1) / (k * roomN s) : Nat) : Int) := by push_cast; rfl
  rw [e5, e6, i64n (le1 b1 ha' hM9), i64n (le1 b2 hb' hM9)]
/-- Where two bytes lie. -/
theorem places {k c p a b : Nat} (hc : 0 < c) (hk : 0 < k) (hab : a ≤ b) (hb : b < k * c * (p - 1)) :
    1 + b / (k * c) < p ∧ a % (k * c) / c < k ∧ b % (k * c) / c < k ∧ ((a = b) ∨ a / (k * c) < b / (k * c) ∨ (a / (k * c) = b / (k * c) ∧ (a % (k * c) / c < b % (k * c) / c ∨ (a % (k * c) / c = b % (k * c) / c ∧ a % c < b % c)))) := by
  have hN : 0 < k * c := Nat.mul_pos hk hc
  have h1 : b / (k * c) < p - 1 := Nat.div_lt_of_lt_mul hb
  have h2 : ∀ x, x % (k * c) / c < k := fun x => Nat.div_lt_of_lt_mul (by rw [Nat.mul_comm c k]; exact Nat.mod_lt _ hN)
  refine ⟨(fun q h => by omega : ∀ q, q < p - 1 → 1 + q < p) _ h1, h2 a, h2 b, ?_⟩
  have h3 : a / (k * c) ≤ b / (k * c) := Nat.div_le_div_right hab
  rcases Nat.lt_or_eq_of_le h3 with h | h
  · exact .inr (.inl h)
  have ea := Nat.div_add_mod a (k * c)
  have eb := Nat.div_add_mod b (k * c)
  rw [h] at ea
  have hm : a % (k * c) ≤ b % (k * c) := by omega
  have h4 : a % (k * c) / c ≤ b % (k * c) / c := Nat.div_le_div_right hm
  rcases Nat.lt_or_eq_of_le h4 with h5 | h5
  · exact .inr (.inr ⟨h, .inl h5⟩)
  have ma : a % (k * c) % c = a % c := Nat.mod_mul_left_mod _ _ _
  have mb : b % (k * c) % c = b % c := Nat.mod_mul_left_mod _ _ _
  have fa := Nat.div_add_mod (a % (k * c)) c
  have fb := Nat.div_add_mod (b % (k * c)) c
  rw [h5, ma] at fa
  rw [mb] at fb
  rcases Nat.lt_or_eq_of_le hab with h6 | h6
  · right; right; refine ⟨h, .inr ⟨h5, ?_⟩⟩; omega
  · exact .inl h6
set_option maxHeartbeats 16000000 in
set_option maxRecDepth 100000 in
theorem places6_no (w : World) (x y z a b : Int) (h : seg_Check.f x y z = some 1) : Calls Try.prog 6 #[.agg #[.int .i64 x, .int .i64 y, .int .i64 z], .int .i64 a, .int .i64 b] w fun e w' => e = .returned (.bool true) ∧ Below w.heap.size w w' := by
  have HK := Aside0.mk (fun (W : World) => known8 W)
  have HC := Aside0.mk (fun (W : World) => seg_Check.calls x y z 1 W h)
  have HH := Aside0.mk (heap_alloc_last w (.cells #[.int .i64 x, .int .i64 y, .int .i64 z] 23))
  have HB := Aside0.mk (below_alloc (Below.refl w.heap.size w) (.cells #[.int .i64 x, .int .i64 y, .int .i64 z] 23))
  clear h
  go_enter Try.func6, Try.ntmps6
  go_wp2_with (first
    | (go_at_call 8; refine Calls.mono (HK.out _) ?_; rintro e w1 ⟨rfl, hb⟩; replace HH := Aside0.mk ((hb.block _ (heap_lt HH.out)).trans HH.out); replace HB := Aside0.mk (below_then HB.out HB.out.size hb); have y0 := blkc HH.out 0 rfl; have y1 := blkc HH.out 1 rfl; have y2 := blkc HH.out 2 rfl; clear hb HK)
    | (go_at_call 22; refine Calls.mono (HC.out _) ?_; rintro e w2 ⟨rfl, hb⟩; replace HB := Aside0.mk (below_then HB.out HB.out.size hb); clear hb HC))
  go_ret
  exact ⟨rfl, HB.out⟩
-- CASES (printed by mkpl.py)
set_option maxHeartbeats 16000000 in
set_option maxRecDepth 100000 in
theorem places6_off (w : World) {k p s : Nat} (hf : Fits k p s) (a b : Int) (h : a < 0 ∨ b < a ∨ ((k * roomN s * (p - 1) : Nat) : Int) ≤ b) : Calls Try.prog 6 #[.agg #[.int .i64 k, .int .i64 p, .int .i64 s], .int .i64 a, .int .i64 b] w fun e w' => e = .returned (.bool true) ∧ Below w.heap.size w w' := by
  have HK := Aside0.mk (fun (W : World) => known8 W)
  have HC := Aside0.mk (fun (W : World) => check22 W hf)
  have HM := Aside0.mk (fun (W : World) => room26 W hf)
  have HH := Aside0.mk (heap_alloc_last w (.cells #[.int .i64 k, .int .i64 p, .int .i64 s] 23))
  have HB := Aside0.mk (below_alloc (Below.refl w.heap.size w) (.cells #[.int .i64 k, .int .i64 p, .int .i64 s] 23))
  generalize k * roomN s * (p - 1) = M at *
  clear hf
  by_cases h1 : a < 0
  · have d1 : decide (a < 0) = true := decide_eq_true h1
    clear h
    go_enter Try.func6, Try.ntmps6
    go_wp2_with (first
      | (go_at_call 8; refine Calls.mono (HK.out _) ?_; rintro e w1 ⟨rfl, hb⟩; replace HH := Aside0.mk ((hb.block _ (heap_lt HH.out)).trans HH.out); replace HB := Aside0.mk (below_then HB.out HB.out.size hb); have y0 := blkc HH.out 0 rfl; have y1 := blkc HH.out 1 rfl; have y2 := blkc HH.out 2 rfl; clear hb HK)
      | (go_at_call 22; refine Calls.mono (HC.out _) ?_; rintro e w2 ⟨rfl, hb⟩; replace HH := Aside0.mk ((hb.block _ (heap_lt HH.out)).trans HH.out); replace HB := Aside0.mk (below_then HB.out HB.out.size hb); have y0 := blkc HH.out 0 rfl; have y1 := blkc HH.out 1 rfl; have y2 := blkc HH.out 2 rfl; clear hb HC)
      | (go_at_call 26; refine Calls.mono (HM.out _) ?_; rintro e w2 ⟨rfl, hb⟩; replace HH := Aside0.mk ((hb.block _ (heap_lt HH.out)).trans HH.out); replace HB := Aside0.mk (below_then HB.out HB.out.size hb); have y0 := blkc HH.out 0 rfl; have y1 := blkc HH.out 1 rfl; have y2 := blkc HH.out 2 rfl; clear hb HM)
      | (go_at_call 27; (first | with_reducible refine Calls.mono (HWa.out _) ?_ | with_reducible refine Calls.mono (HWb.out _) ?_); rintro e w2 ⟨rfl, hb⟩; replace HH := Aside0.mk ((hb.block _ (heap_lt HH.out)).trans HH.out); replace HB := Aside0.mk (below_then HB.out HB.out.size hb); have y0 := blkc HH.out 0 rfl; have y1 := blkc HH.out 1 rfl; have y2 := blkc HH.out 2 rfl; clear hb)
      | (go_at_call 28; refine Calls.mono (HSp.out _) ?_; rintro e w2 ⟨rfl, hb⟩; replace HH := Aside0.mk ((hb.block _ (heap_lt HH.out)).trans HH.out); replace HB := Aside0.mk (below_then HB.out HB.out.size hb); have y0 := blkc HH.out 0 rfl; have y1 := blkc HH.out 1 rfl; have y2 := blkc HH.out 2 rfl; clear hb))
    go_ret
    exact ⟨rfl, HB.out⟩
  · have d1 : decide (a < 0) = false := decide_eq_false h1
    by_cases h2 : b < a
    · have d2 : decide (b < a) = true := decide_eq_true h2
      clear h
      go_enter Try.func6, Try.ntmps6
      go_wp2_with (first
        | (go_at_call 8; refine Calls.mono (HK.out _) ?_; rintro e w1 ⟨rfl, hb⟩; replace HH := Aside0.mk ((hb.block _ (heap_lt HH.out)).trans HH.out); replace HB := Aside0.mk (below_then HB.out HB.out.size hb); have y0 := blkc HH.out 0 rfl; have y1 := blkc HH.out 1 rfl; have y2 := blkc HH.out 2 rfl; clear hb HK)
        | (go_at_call 22; refine Calls.mono (HC.out _) ?_; rintro e w2 ⟨rfl, hb⟩; replace HH := Aside0.mk ((hb.block _ (heap_lt HH.out)).trans HH.out); replace HB := Aside0.mk (below_then HB.out HB.out.size hb); have y0 := blkc HH.out 0 rfl; have y1 := blkc HH.out 1 rfl; have y2 := blkc HH.out 2 rfl; clear hb HC)
        | (go_at_call 26; refine Calls.mono (HM.out _) ?_; rintro e w2 ⟨rfl, hb⟩; replace HH := Aside0.mk ((hb.block _ (heap_lt HH.out)).trans HH.out); replace HB := Aside0.mk (below_then HB.out HB.out.size hb); have y0 := blkc HH.out 0 rfl; have y1 := blkc HH.out 1 rfl; have y2 := blkc HH.out 2 rfl; clear hb HM)
        | (go_at_call 27; (first | with_reducible refine Calls.mono (HWa.out _) ?_ | with_reducible refine Calls.mono (HWb.out _) ?_); rintro e w2 ⟨rfl, hb⟩; replace HH := Aside0.mk ((hb.block _ (heap_lt HH.out)).trans HH.out); replace HB := Aside0.mk (below_then HB.out HB.out.size hb); have y0 := blkc HH.out 0 rfl; have y1 := blkc HH.out 1 rfl; have y2 := blkc HH.out 2 rfl; clear hb)
        | (go_at_call 28; refine Calls.mono (HSp.out _) ?_; rintro e w2 ⟨rfl, hb⟩; replace HH := Aside0.mk ((hb.block _ (heap_lt HH.out)).trans HH.out); replace HB := Aside0.mk (below_then HB.out HB.out.size hb); have y0 := blkc HH.out 0 rfl; have y1 := blkc HH.out 1 rfl; have y2 := blkc HH.out 2 rfl; clear hb))
      go_ret
      exact ⟨rfl, HB.out⟩
    · have d2 : decide (b < a) = false := decide_eq_false h2
      have d3 : decide ((M : Int) ≤ b) = true := decide_eq_true (by omega)
      clear h
      go_enter Try.func6, Try.ntmps6
      go_wp2_with (first
        | (go_at_call 8; refine Calls.mono (HK.out _) ?_; rintro e w1 ⟨rfl, hb⟩; replace HH := Aside0.mk ((hb.block _ (heap_lt HH.out)).trans HH.out); replace HB := Aside0.mk (below_then HB.out HB.out.size hb); have y0 := blkc HH.out 0 rfl; have y1 := blkc HH.out 1 rfl; have y2 := blkc HH.out 2 rfl; clear hb HK)
        | (go_at_call 22; refine Calls.mono (HC.out _) ?_; rintro e w2 ⟨rfl, hb⟩; replace HH := Aside0.mk ((hb.block _ (heap_lt HH.out)).trans HH.out); replace HB := Aside0.mk (below_then HB.out HB.out.size hb); have y0 := blkc HH.out 0 rfl; have y1 := blkc HH.out 1 rfl; have y2 := blkc HH.out 2 rfl; clear hb HC)
        | (go_at_call 26; refine Calls.mono (HM.out _) ?_; rintro e w2 ⟨rfl, hb⟩; replace HH := Aside0.mk ((hb.block _ (heap_lt HH.out)).trans HH.out); replace HB := Aside0.mk (below_then HB.out HB.out.size hb); have y0 := blkc HH.out 0 rfl; have y1 := blkc HH.out 1 rfl; have y2 := blkc HH.out 2 rfl; clear hb HM)
        | (go_at_call 27; (first | with_reducible refine Calls.mono (HWa.out _) ?_ | with_reducible refine Calls.mono (HWb.out _) ?_); rintro e w2 ⟨rfl, hb⟩; replace HH := Aside0.mk ((hb.block _ (heap_lt HH.out)).trans HH.out); replace HB := Aside0.mk (below_then HB.out HB.out.size hb); have y0 := blkc HH.out 0 rfl; have y1 := blkc HH.out 1 rfl; have y2 := blkc HH.out 2 rfl; clear hb)
        | (go_at_call 28; refine Calls.mono (HSp.out _) ?_; rintro e w2 ⟨rfl, hb⟩; replace HH := Aside0.mk ((hb.block _ (heap_lt HH.out)).trans HH.out); replace HB := Aside0.mk (below_then HB.out HB.out.size hb); have y0 := blkc HH.out 0 rfl; have y1 := blkc HH.out 1 rfl; have y2 := blkc HH.out 2 rfl; clear hb))
      go_ret
      exact ⟨rfl, HB.out⟩
set_option maxHeartbeats 16000000 in
set_option maxRecDepth 100000 in
theorem places6_on (w : World) {k p s : Nat} (hf : Fits k p s) (a b : Nat) (hab : a ≤ b) (hb : b < k * roomN s * (p - 1)) : Calls Try.prog 6 #[.agg #[.int .i64 k, .int .i64 p, .int .i64 s], .int .i64 a, .int .i64 b] w fun e w' => e = .returned (.bool true) ∧ Below w.heap.size w w' := by
  have HK := Aside0.mk (fun (W : World) => known8 W)
  have HC := Aside0.mk (fun (W : World) => check22 W hf)
  have HM := Aside0.mk (fun (W : World) => room26 W hf)
  have HWa := Aside0.mk (fun (W : World) => seg_Where.calls 1 k p s a _ _ _ _ W (where_of hf (Nat.lt_of_le_of_lt hab hb)))
  have HWb := Aside0.mk (fun (W : World) => seg_Where.calls 1 k p s b _ _ _ _ W (where_of hf hb))
  have HSp := Aside0.mk (fun (W : World) => seg_Span.calls 1 k p s a ((b - a + 1 : Nat) : Int) _ _ _ W (span_of hf (a := a) (n := b - a + 1) (by omega) (by omega)))
  rw [show a + (b - a + 1) - 1 = b by omega, show ((b - a + 1 : Nat) : Int) = (b : Int) - (a : Int) + 1 by omega] at HSp
  have hr := room_pos hf.s1 hf.s2
  obtain ⟨q1, q2, q3, q4⟩ := places (k := k) (c := roomN s) (p := p) (by omega) (by have := hf.k1; omega) hab hb
  have hM : k * roomN s * (p - 1) ≤ 2097152 * 4095 := Nat.mul_le_mul (row_lt hf) (by have := hf.p2; omega)
  have HH := Aside0.mk (heap_alloc_last w (.cells #[.int .i64 k, .int .i64 p, .int .i64 s] 23))
  have HB := Aside0.mk (below_alloc (Below.refl w.heap.size w) (.cells #[.int .i64 k, .int .i64 p, .int .i64 s] 23))
  have hru : 1 + a / (k * roomN s) ≤ 1 + b / (k * roomN s) := Nat.add_le_add_left (Nat.div_le_div_right hab) 1
  generalize k * roomN s * (p - 1) = M at *
  have d1 : decide ((a : Int) < 0) = false := decide_eq_false (by omega)
  have d2 : decide ((b : Int) < (a : Int)) = false := decide_eq_false (by omega)
  have d3 : decide ((M : Int) ≤ (b : Int)) = false := decide_eq_false (by omega)
  have r1 : 1 ≤ 1 + a / (k * roomN s) := Nat.le_add_right _ _
  have q5 : a = b ∨ (¬ a = b ∧ (1 + a / (k * roomN s) < 1 + b / (k * roomN s) ∨ (1 + a / (k * roomN s) = 1 + b / (k * roomN s) ∧ (a % (k * roomN s) / roomN s < b % (k * roomN s) / roomN s ∨ (a % (k * roomN s) / roomN s = b % (k * roomN s) / roomN s ∧ a % roomN s < b % roomN s))))) := by
    rcases q4 with h | h | ⟨h, h'⟩
    · exact .inl h
    · exact .inr ⟨fun e => by subst e; exact Nat.lt_irrefl _ h, .inl (Nat.add_lt_add_left h 1)⟩
    · refine .inr ⟨fun e => ?_, .inr ⟨by rw [h], h'⟩⟩
      subst e
      rcases h' with h | h
      · exact Nat.lt_irrefl _ h
      · exact Nat.lt_irrefl _ h.2
  clear q4
  rcases q5 with hq | ⟨hne, q5⟩
  · have e1 : 1 + b / (k * roomN s) = 1 + a / (k * roomN s) := by rw [hq]
    have e2 : b % (k * roomN s) / roomN s = a % (k * roomN s) / roomN s := by rw [hq]
    have e3 : b % roomN s = a % roomN s := by rw [hq]
    rw [e1, e2, e3] at HWb
    rw [e1] at HSp q1
    clear e1 e2 e3 q3 hru
    generalize 1 + a / (k * roomN s) = r at *
    generalize a % (k * roomN s) / roomN s = c at *
    generalize a % roomN s = o at *
    have f1 : decide ((r : Int) < 1) = false := decide_eq_false (by omega)
    have f2 : decide ((p : Int) ≤ (r : Int)) = false := decide_eq_false (by omega)
    have f3 : decide ((c : Int) < 0) = false := decide_eq_false (by omega)
    have f4 : decide ((k : Int) ≤ (c : Int)) = false := decide_eq_false (by omega)
    have g2 : decide (p ≤ r) = false := decide_eq_false (by omega)
    have g4 : decide (k ≤ c) = false := decide_eq_false (by omega)
    have f5 : ((a : Int) == (b : Int)) = true := beq_iff_eq.mpr (by omega)
    clear hf q1 q2 hr r1 hq
    go_enter Try.func6, Try.ntmps6
    go_wp2_with (first
      | (go_at_call 8; refine Calls.mono (HK.out _) ?_; rintro e w1 ⟨rfl, hb⟩; replace HH := Aside0.mk ((hb.block _ (heap_lt HH.out)).trans HH.out); replace HB := Aside0.mk (below_then HB.out HB.out.size hb); have y0 := blkc HH.out 0 rfl; have y1 := blkc HH.out 1 rfl; have y2 := blkc HH.out 2 rfl; clear hb HK)
      | (go_at_call 22; refine Calls.mono (HC.out _) ?_; rintro e w2 ⟨rfl, hb⟩; replace HH := Aside0.mk ((hb.block _ (heap_lt HH.out)).trans HH.out); replace HB := Aside0.mk (below_then HB.out HB.out.size hb); have y0 := blkc HH.out 0 rfl; have y1 := blkc HH.out 1 rfl; have y2 := blkc HH.out 2 rfl; clear hb HC)
      | (go_at_call 26; refine Calls.mono (HM.out _) ?_; rintro e w2 ⟨rfl, hb⟩; replace HH := Aside0.mk ((hb.block _ (heap_lt HH.out)).trans HH.out); replace HB := Aside0.mk (below_then HB.out HB.out.size hb); have y0 := blkc HH.out 0 rfl; have y1 := blkc HH.out 1 rfl; have y2 := blkc HH.out 2 rfl; clear hb HM)
      | (go_at_call 27; (first | with_reducible refine Calls.mono (HWa.out _) ?_ | with_reducible refine Calls.mono (HWb.out _) ?_); rintro e w2 ⟨rfl, hb⟩; replace HH := Aside0.mk ((hb.block _ (heap_lt HH.out)).trans HH.out); replace HB := Aside0.mk (below_then HB.out HB.out.size hb); have y0 := blkc HH.out 0 rfl; have y1 := blkc HH.out 1 rfl; have y2 := blkc HH.out 2 rfl; clear hb)
      | (go_at_call 28; refine Calls.mono (HSp.out _) ?_; rintro e w2 ⟨rfl, hb⟩; replace HH := Aside0.mk ((hb.block _ (heap_lt HH.out)).trans HH.out); replace HB := Aside0.mk (below_then HB.out HB.out.size hb); have y0 := blkc HH.out 0 rfl; have y1 := blkc HH.out 1 rfl; have y2 := blkc HH.out 2 rfl; clear hb))
    go_ret
    exact ⟨rfl, HB.out⟩
  · generalize 1 + a / (k * roomN s) = r at *
    generalize 1 + b / (k * roomN s) = u at *
    generalize a % (k * roomN s) / roomN s = c at *
    generalize b % (k * roomN s) / roomN s = v at *
    generalize a % roomN s = o at *
    generalize b % roomN s = o2 at *
    clear hf
    have f1 : decide ((r : Int) < 1) = false := decide_eq_false (by omega)
    have f2 : decide ((p : Int) ≤ (r : Int)) = false := decide_eq_false (by omega)
    have f3 : decide ((c : Int) < 0) = false := decide_eq_false (by omega)
    have f4 : decide ((k : Int) ≤ (c : Int)) = false := decide_eq_false (by omega)
    have g2 : decide (p ≤ r) = false := decide_eq_false (by omega)
    have g4 : decide (k ≤ c) = false := decide_eq_false (by omega)
    have f5 : ((a : Int) == (b : Int)) = false := beq_eq_false_iff_ne.mpr (by omega)
    clear q1 q2 q3 hru hr r1 hne
    rcases q5 with q5 | ⟨rfl, q5 | ⟨rfl, q5⟩⟩
    · have e_r : (((r : Nat) : Int) == ((u : Nat) : Int)) = false := beq_eq_false_iff_ne.mpr (by omega)
      have l_r : decide (((r : Nat) : Int) < ((u : Nat) : Int)) = true := decide_eq_true (by omega)
      have m_r : decide (((r : Nat) : Int) ≤ ((u : Nat) : Int)) = true := decide_eq_true (by omega)
      have n_r : decide (r < u) = true := decide_eq_true (by omega)
      have o_r : decide (r ≤ u) = true := decide_eq_true (by omega)
      have p_r : (r == u) = false := beq_eq_false_iff_ne.mpr (by omega)
      have q_r : decide (r = u) = false := decide_eq_false (by omega)
      clear q5
      go_enter Try.func6, Try.ntmps6
      go_wp2_with (first
        | (go_at_call 8; refine Calls.mono (HK.out _) ?_; rintro e w1 ⟨rfl, hb⟩; replace HH := Aside0.mk ((hb.block _ (heap_lt HH.out)).trans HH.out); replace HB := Aside0.mk (below_then HB.out HB.out.size hb); have y0 := blkc HH.out 0 rfl; have y1 := blkc HH.out 1 rfl; have y2 := blkc HH.out 2 rfl; clear hb HK)
        | (go_at_call 22; refine Calls.mono (HC.out _) ?_; rintro e w2 ⟨rfl, hb⟩; replace HH := Aside0.mk ((hb.block _ (heap_lt HH.out)).trans HH.out); replace HB := Aside0.mk (below_then HB.out HB.out.size hb); have y0 := blkc HH.out 0 rfl; have y1 := blkc HH.out 1 rfl; have y2 := blkc HH.out 2 rfl; clear hb HC)
        | (go_at_call 26; refine Calls.mono (HM.out _) ?_; rintro e w2 ⟨rfl, hb⟩; replace HH := Aside0.mk ((hb.block _ (heap_lt HH.out)).trans HH.out); replace HB := Aside0.mk (below_then HB.out HB.out.size hb); have y0 := blkc HH.out 0 rfl; have y1 := blkc HH.out 1 rfl; have y2 := blkc HH.out 2 rfl; clear hb HM)
        | (go_at_call 27; (first | with_reducible refine Calls.mono (HWa.out _) ?_ | with_reducible refine Calls.mono (HWb.out _) ?_); rintro e w2 ⟨rfl, hb⟩; replace HH := Aside0.mk ((hb.block _ (heap_lt HH.out)).trans HH.out); replace HB := Aside0.mk (below_then HB.out HB.out.size hb); have y0 := blkc HH.out 0 rfl; have y1 := blkc HH.out 1 rfl; have y2 := blkc HH.out 2 rfl; clear hb)
        | (go_at_call 28; refine Calls.mono (HSp.out _) ?_; rintro e w2 ⟨rfl, hb⟩; replace HH := Aside0.mk ((hb.block _ (heap_lt HH.out)).trans HH.out); replace HB := Aside0.mk (below_then HB.out HB.out.size hb); have y0 := blkc HH.out 0 rfl; have y1 := blkc HH.out 1 rfl; have y2 := blkc HH.out 2 rfl; clear hb))
      go_ret
      exact ⟨rfl, HB.out⟩
    · have e_c : (((c : Nat) : Int) == ((v : Nat) : Int)) = false := beq_eq_false_iff_ne.mpr (by omega)
      have l_c : decide (((c : Nat) : Int) < ((v : Nat) : Int)) = true := decide_eq_true (by omega)
      have m_c : decide (((c : Nat) : Int) ≤ ((v : Nat) : Int)) = true := decide_eq_true (by omega)
      have n_c : decide (c < v) = true := decide_eq_true (by omega)
      have o_c : decide (c ≤ v) = true := decide_eq_true (by omega)
      have p_c : (c == v) = false := beq_eq_false_iff_ne.mpr (by omega)
      have q_c : decide (c = v) = false := decide_eq_false (by omega)
      clear q5
      go_enter Try.func6, Try.ntmps6
      go_wp2_with (first
        | (go_at_call 8; refine Calls.mono (HK.out _) ?_; rintro e w1 ⟨rfl, hb⟩; replace HH := Aside0.mk ((hb.block _ (heap_lt HH.out)).trans HH.out); replace HB := Aside0.mk (below_then HB.out HB.out.size hb); have y0 := blkc HH.out 0 rfl; have y1 := blkc HH.out 1 rfl; have y2 := blkc HH.out 2 rfl; clear hb HK)
        | (go_at_call 22; refine Calls.mono (HC.out _) ?_; rintro e w2 ⟨rfl, hb⟩; replace HH := Aside0.mk ((hb.block _ (heap_lt HH.out)).trans HH.out); replace HB := Aside0.mk (below_then HB.out HB.out.size hb); have y0 := blkc HH.out 0 rfl; have y1 := blkc HH.out 1 rfl; have y2 := blkc HH.out 2 rfl; clear hb HC)
        | (go_at_call 26; refine Calls.mono (HM.out _) ?_; rintro e w2 ⟨rfl, hb⟩; replace HH := Aside0.mk ((hb.block _ (heap_lt HH.out)).trans HH.out); replace HB := Aside0.mk (below_then HB.out HB.out.size hb); have y0 := blkc HH.out 0 rfl; have y1 := blkc HH.out 1 rfl; have y2 := blkc HH.out 2 rfl; clear hb HM)
        | (go_at_call 27; (first | with_reducible refine Calls.mono (HWa.out _) ?_ | with_reducible refine Calls.mono (HWb.out _) ?_); rintro e w2 ⟨rfl, hb⟩; replace HH := Aside0.mk ((hb.block _ (heap_lt HH.out)).trans HH.out); replace HB := Aside0.mk (below_then HB.out HB.out.size hb); have y0 := blkc HH.out 0 rfl; have y1 := blkc HH.out 1 rfl; have y2 := blkc HH.out 2 rfl; clear hb)
        | (go_at_call 28; refine Calls.mono (HSp.out _) ?_; rintro e w2 ⟨rfl, hb⟩; replace HH := Aside0.mk ((hb.block _ (heap_lt HH.out)).trans HH.out); replace HB := Aside0.mk (below_then HB.out HB.out.size hb); have y0 := blkc HH.out 0 rfl; have y1 := blkc HH.out 1 rfl; have y2 := blkc HH.out 2 rfl; clear hb))
      go_ret
      exact ⟨rfl, HB.out⟩
    · have e_o : (((o : Nat) : Int) == ((o2 : Nat) : Int)) = false := beq_eq_false_iff_ne.mpr (by omega)
      have l_o : decide (((o : Nat) : Int) < ((o2 : Nat) : Int)) = true := decide_eq_true (by omega)
      have m_o : decide (((o : Nat) : Int) ≤ ((o2 : Nat) : Int)) = true := decide_eq_true (by omega)
      have n_o : decide (o < o2) = true := decide_eq_true (by omega)
      have o_o : decide (o ≤ o2) = true := decide_eq_true (by omega)
      have p_o : (o == o2) = false := beq_eq_false_iff_ne.mpr (by omega)
      have q_o : decide (o = o2) = false := decide_eq_false (by omega)
      clear q5
      go_enter Try.func6, Try.ntmps6
      go_wp2_with (first
        | (go_at_call 8; refine Calls.mono (HK.out _) ?_; rintro e w1 ⟨rfl, hb⟩; replace HH := Aside0.mk ((hb.block _ (heap_lt HH.out)).trans HH.out); replace HB := Aside0.mk (below_then HB.out HB.out.size hb); have y0 := blkc HH.out 0 rfl; have y1 := blkc HH.out 1 rfl; have y2 := blkc HH.out 2 rfl; clear hb HK)
        | (go_at_call 22; refine Calls.mono (HC.out _) ?_; rintro e w2 ⟨rfl, hb⟩; replace HH := Aside0.mk ((hb.block _ (heap_lt HH.out)).trans HH.out); replace HB := Aside0.mk (below_then HB.out HB.out.size hb); have y0 := blkc HH.out 0 rfl; have y1 := blkc HH.out 1 rfl; have y2 := blkc HH.out 2 rfl; clear hb HC)
        | (go_at_call 26; refine Calls.mono (HM.out _) ?_; rintro e w2 ⟨rfl, hb⟩; replace HH := Aside0.mk ((hb.block _ (heap_lt HH.out)).trans HH.out); replace HB := Aside0.mk (below_then HB.out HB.out.size hb); have y0 := blkc HH.out 0 rfl; have y1 := blkc HH.out 1 rfl; have y2 := blkc HH.out 2 rfl; clear hb HM)
        | (go_at_call 27; (first | with_reducible refine Calls.mono (HWa.out _) ?_ | with_reducible refine Calls.mono (HWb.out _) ?_); rintro e w2 ⟨rfl, hb⟩; replace HH := Aside0.mk ((hb.block _ (heap_lt HH.out)).trans HH.out); replace HB := Aside0.mk (below_then HB.out HB.out.size hb); have y0 := blkc HH.out 0 rfl; have y1 := blkc HH.out 1 rfl; have y2 := blkc HH.out 2 rfl; clear hb)
        | (go_at_call 28; refine Calls.mono (HSp.out _) ?_; rintro e w2 ⟨rfl, hb⟩; replace HH := Aside0.mk ((hb.block _ (heap_lt HH.out)).trans HH.out); replace HB := Aside0.mk (below_then HB.out HB.out.size hb); have y0 := blkc HH.out 0 rfl; have y1 := blkc HH.out 1 rfl; have y2 := blkc HH.out 2 rfl; clear hb))
      go_ret
      exact ⟨rfl, HB.out⟩
theorem places6 (w : World) (x y z a b : Int) : Calls Try.prog 6 #[.agg #[.int .i64 x, .int .i64 y, .int .i64 z], .int .i64 a, .int .i64 b] w fun e w' => e = .returned (.bool true) ∧ Below w.heap.size w w' := by
  rcases check_any x y z with h | ⟨k, p, s, hf, rfl, rfl, rfl⟩
  · exact places6_no w x y z a b h
  · by_cases h : a < 0 ∨ b < a ∨ ((k * roomN s * (p - 1) : Nat) : Int) ≤ b
    · exact places6_off w hf a b h
    · obtain ⟨a', rfl⟩ : ∃ n : Nat, a = n := ⟨a.toNat, by omega⟩
      obtain ⟨b', rfl⟩ : ∃ n : Nat, b = n := ⟨b.toNat, by omega⟩
      exact places6_on w hf a' b' (by omega) (by omega)
end Go.Proofs.Ytjnicooboiijgaa.Sg
