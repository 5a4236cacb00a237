/-
  flintlaw9.SegUnlike. (Printed by mkun.py.)
-/
import Derived.Test.YtjnicooboiijgaaSgSm
import Derived.Test.YtjnicooboiijgaaSgUl
set_option linter.unusedVariables false
set_option linter.unusedSimpArgs false
namespace Go.Proofs.Ytjnicooboiijgaa.Sg
open Go.RowKit Go.Proofs.YtjnicooboiijgaaW.PrintWords Go.Proofs.YtjnicooboiijgaaW.PrintLast Go.Proofs.YtjnicooboiijgaaW.PrintMore Go.Proofs.Ytjnicooboiijgaa.PSg Go.Proofs.Ytjnicooboiijgaa.Gf Go.Proofs.Ytjnicooboiijgaa.Rs
set_option maxHeartbeats 16000000 in
set_option maxRecDepth 100000 in
theorem unlike5_no (w : World) (x y z a b row other at_ : Int) (A : Option Addr) (n c : Nat) (h : seg_Check.f x y z = some 1) : Calls Try.prog 5 #[.agg #[.int .i64 x, .int .i64 y, .int .i64 z], .int .u64 a, .int .u64 b, .int .i64 row, .int .i64 other, .slice A n c, .int .i64 at_] w fun e w' => e = .returned (.bool true) ∧ Below w.heap.size w w' := by
  have HK := Aside0.mk (fun (W : World) => known8 W)
  have HS := Aside0.mk (fun (W : World) => small9_no W h)
  have HC := Aside0.mk (fun (W : World) => seg_Check.calls x y z 1 W h)
  have HH := Aside0.mk (heap_alloc_last w (.cells #[.int .i64 x, .int .i64 y, .int .i64 z] 23))
  have HB := Aside0.mk (below_alloc (Below.refl w.heap.size w) (.cells #[.int .i64 x, .int .i64 y, .int .i64 z] 23))
  clear h
  go_enter Try.func5, Try.ntmps5
  go_wp2_with (first
    | (go_at_call 8; refine Calls.mono (HK.out _) ?_; rintro e w2 ⟨rfl, hb⟩; replace HH := Aside0.mk ((hb.block _ (heap_lt HH.out)).trans HH.out); replace HB := Aside0.mk (below_then HB.out HB.out.size hb); have y0 := blkc HH.out 0 rfl; have y1 := blkc HH.out 1 rfl; have y2 := blkc HH.out 2 rfl;  clear hb)
    | (go_at_call 9; refine Calls.mono (HS.out _) ?_; rintro e w2 ⟨rfl, hb⟩; replace HH := Aside0.mk ((hb.block _ (heap_lt HH.out)).trans HH.out); replace HB := Aside0.mk (below_then HB.out HB.out.size hb); have y0 := blkc HH.out 0 rfl; have y1 := blkc HH.out 1 rfl; have y2 := blkc HH.out 2 rfl;  clear hb)
    | (go_at_call 22; refine Calls.mono (HC.out _) ?_; rintro e w2 ⟨rfl, hb⟩; replace HH := Aside0.mk ((hb.block _ (heap_lt HH.out)).trans HH.out); replace HB := Aside0.mk (below_then HB.out HB.out.size hb); have y0 := blkc HH.out 0 rfl; have y1 := blkc HH.out 1 rfl; have y2 := blkc HH.out 2 rfl;  clear hb))
  go_ret
  exact ⟨rfl, HB.out⟩
set_option maxHeartbeats 16000000 in
set_option maxRecDepth 100000 in
theorem unlike5_off (w : World) {k p s : Nat} (hf : Fits k p s) (a b row other at_ : Int) (A : Option Addr) (n c : Nat) (h : ¬ (s ≤ 600 ∧ k ≤ 12) ∨ n = 0 ∨ k * roomN s < n) : Calls Try.prog 5 #[.agg #[.int .i64 k, .int .i64 p, .int .i64 s], .int .u64 a, .int .u64 b, .int .i64 row, .int .i64 other, .slice A n c, .int .i64 at_] w fun e w' => e = .returned (.bool true) ∧ Below w.heap.size w w' := by
  have HK := Aside0.mk (fun (W : World) => known8 W)
  have HC := Aside0.mk (fun (W : World) => check22 W hf)
  have HRo := Aside0.mk (fun (W : World) => row23 W hf)
  have HH := Aside0.mk (heap_alloc_last w (.cells #[.int .i64 k, .int .i64 p, .int .i64 s] 23))
  have HB := Aside0.mk (below_alloc (Below.refl w.heap.size w) (.cells #[.int .i64 k, .int .i64 p, .int .i64 s] 23))
  by_cases h1 : s ≤ 600 ∧ k ≤ 12
  · have HS := Aside0.mk (fun (W : World) => small9_yes W hf true (by simp [h1]))
    generalize k * roomN s = N at *
    clear hf
    by_cases h2 : n = 0
    · have d2 : ((n : Int) == 0) = true := beq_iff_eq.mpr (by omega)
      clear h h1 h2
      go_enter Try.func5, Try.ntmps5
      go_wp2_with (first
        | (go_at_call 8; refine Calls.mono (HK.out _) ?_; rintro e w2 ⟨rfl, hb⟩; replace HH := Aside0.mk ((hb.block _ (heap_lt HH.out)).trans HH.out); replace HB := Aside0.mk (below_then HB.out HB.out.size hb); have y0 := blkc HH.out 0 rfl; have y1 := blkc HH.out 1 rfl; have y2 := blkc HH.out 2 rfl;  clear hb)
        | (go_at_call 9; refine Calls.mono (HS.out _) ?_; rintro e w2 ⟨rfl, hb⟩; replace HH := Aside0.mk ((hb.block _ (heap_lt HH.out)).trans HH.out); replace HB := Aside0.mk (below_then HB.out HB.out.size hb); have y0 := blkc HH.out 0 rfl; have y1 := blkc HH.out 1 rfl; have y2 := blkc HH.out 2 rfl;  clear hb)
        | (go_at_call 22; refine Calls.mono (HC.out _) ?_; rintro e w2 ⟨rfl, hb⟩; replace HH := Aside0.mk ((hb.block _ (heap_lt HH.out)).trans HH.out); replace HB := Aside0.mk (below_then HB.out HB.out.size hb); have y0 := blkc HH.out 0 rfl; have y1 := blkc HH.out 1 rfl; have y2 := blkc HH.out 2 rfl;  clear hb))
      go_ret
      exact ⟨rfl, HB.out⟩
    · have d2 : ((n : Int) == 0) = false := beq_eq_false_iff_ne.mpr (by omega)
      have d3 : decide ((N : Int) < (n : Int)) = true := decide_eq_true (by omega)
      have d4 : decide (N < n) = true := decide_eq_true (by omega)
      clear h h1
      go_enter Try.func5, Try.ntmps5
      go_wp2_with (first
        | (go_at_call 8; refine Calls.mono (HK.out _) ?_; rintro e w2 ⟨rfl, hb⟩; replace HH := Aside0.mk ((hb.block _ (heap_lt HH.out)).trans HH.out); replace HB := Aside0.mk (below_then HB.out HB.out.size hb); have y0 := blkc HH.out 0 rfl; have y1 := blkc HH.out 1 rfl; have y2 := blkc HH.out 2 rfl;  clear hb)
        | (go_at_call 9; refine Calls.mono (HS.out _) ?_; rintro e w2 ⟨rfl, hb⟩; replace HH := Aside0.mk ((hb.block _ (heap_lt HH.out)).trans HH.out); replace HB := Aside0.mk (below_then HB.out HB.out.size hb); have y0 := blkc HH.out 0 rfl; have y1 := blkc HH.out 1 rfl; have y2 := blkc HH.out 2 rfl;  clear hb)
        | (go_at_call 22; refine Calls.mono (HC.out _) ?_; rintro e w2 ⟨rfl, hb⟩; replace HH := Aside0.mk ((hb.block _ (heap_lt HH.out)).trans HH.out); replace HB := Aside0.mk (below_then HB.out HB.out.size hb); have y0 := blkc HH.out 0 rfl; have y1 := blkc HH.out 1 rfl; have y2 := blkc HH.out 2 rfl;  clear hb)
        | (go_at_call 23; refine Calls.mono (HRo.out _) ?_; rintro e w2 ⟨rfl, hb⟩; replace HH := Aside0.mk ((hb.block _ (heap_lt HH.out)).trans HH.out); replace HB := Aside0.mk (below_then HB.out HB.out.size hb); have y0 := blkc HH.out 0 rfl; have y1 := blkc HH.out 1 rfl; have y2 := blkc HH.out 2 rfl;  clear hb))
      go_ret
      exact ⟨rfl, HB.out⟩
  · have HS := Aside0.mk (fun (W : World) => small9_yes W hf false (by simp only [h1, decide_false]))
    clear h h1 hf
    go_enter Try.func5, Try.ntmps5
    go_wp2_with (first
      | (go_at_call 8; refine Calls.mono (HK.out _) ?_; rintro e w2 ⟨rfl, hb⟩; replace HH := Aside0.mk ((hb.block _ (heap_lt HH.out)).trans HH.out); replace HB := Aside0.mk (below_then HB.out HB.out.size hb); have y0 := blkc HH.out 0 rfl; have y1 := blkc HH.out 1 rfl; have y2 := blkc HH.out 2 rfl;  clear hb)
      | (go_at_call 9; refine Calls.mono (HS.out _) ?_; rintro e w2 ⟨rfl, hb⟩; replace HH := Aside0.mk ((hb.block _ (heap_lt HH.out)).trans HH.out); replace HB := Aside0.mk (below_then HB.out HB.out.size hb); have y0 := blkc HH.out 0 rfl; have y1 := blkc HH.out 1 rfl; have y2 := blkc HH.out 2 rfl;  clear hb)
      | (go_at_call 22; refine Calls.mono (HC.out _) ?_; rintro e w2 ⟨rfl, hb⟩; replace HH := Aside0.mk ((hb.block _ (heap_lt HH.out)).trans HH.out); replace HB := Aside0.mk (below_then HB.out HB.out.size hb); have y0 := blkc HH.out 0 rfl; have y1 := blkc HH.out 1 rfl; have y2 := blkc HH.out 2 rfl;  clear hb))
    go_ret
    exact ⟨rfl, HB.out⟩
-- MAIN
set_option maxHeartbeats 16000000 in
set_option maxRecDepth 100000 in
theorem unlike5_row (w : World) {k p s : Nat} (hf : Fits k p s) (hsm : s ≤ 600 ∧ k ≤ 12) (A : Option Addr) (n c : Nat) (xs : List Int) (hA : KB.C w A n xs) (hx : bytes xs = true) (hnc : n ≤ c) (h0 : 0 < n) (hn : n ≤ k * roomN s) (sa sb : Nat) (hsa : sa < 18446744073709551616) (hsb : sb < 18446744073709551616) (row other at_ : Int) (h : row < 1 ∨ (p : Int) ≤ row) : Calls Try.prog 5 #[.agg #[.int .i64 k, .int .i64 p, .int .i64 s], .int .u64 sa, .int .u64 sb, .int .i64 row, .int .i64 other, .slice A n c, .int .i64 at_] w fun e w' => e = .returned (.bool true) ∧ Below w.heap.size w w' := by
  have HK := Aside0.mk (fun (W : World) => known8 W)
  have HC := Aside0.mk (fun (W : World) => check22 W hf)
  have HRo := Aside0.mk (fun (W : World) => row23 W hf)
  have HS := Aside0.mk (fun (W : World) => small9_yes W hf true (by simp [hsm]))
  have HH := Aside0.mk (heap_alloc_last w (.cells #[.int .i64 k, .int .i64 p, .int .i64 s] 23))
  have HB := Aside0.mk (below_alloc (Below.refl w.heap.size w) (.cells #[.int .i64 k, .int .i64 p, .int .i64 s] 23))
  have H1 := Aside0.mk (fun (W : World) (hW : Below w.heap.size w W) => pages24_row W hf sa row A n c h)
  have H2 := Aside0.mk (fun (W : World) (hW : Below w.heap.size w W) => pages24_any W hf sb other A n c xs (Kd.C_below hA hW) hx hsb hn)
  generalize k * roomN s = N at *
  have d2 : ((n : Int) == 0) = false := beq_eq_false_iff_ne.mpr (by omega)
  have d3 : decide ((N : Int) < (n : Int)) = false := decide_eq_false (by omega)
  have d4 : decide (N < n) = false := decide_eq_false (by omega)
  clear hf hA hx hsm h
  go_enter Try.func5, Try.ntmps5
  go_wp2_with (first
    | (go_at_call 8; refine Calls.mono (HK.out _) ?_; rintro e w2 ⟨rfl, hb⟩; replace HH := Aside0.mk ((hb.block _ (heap_lt HH.out)).trans HH.out); replace HB := Aside0.mk (below_then HB.out HB.out.size hb); have y0 := blkc HH.out 0 rfl; have y1 := blkc HH.out 1 rfl; have y2 := blkc HH.out 2 rfl;  clear hb)
    | (go_at_call 9; refine Calls.mono (HS.out _) ?_; rintro e w2 ⟨rfl, hb⟩; replace HH := Aside0.mk ((hb.block _ (heap_lt HH.out)).trans HH.out); replace HB := Aside0.mk (below_then HB.out HB.out.size hb); have y0 := blkc HH.out 0 rfl; have y1 := blkc HH.out 1 rfl; have y2 := blkc HH.out 2 rfl;  clear hb)
    | (go_at_call 22; refine Calls.mono (HC.out _) ?_; rintro e w2 ⟨rfl, hb⟩; replace HH := Aside0.mk ((hb.block _ (heap_lt HH.out)).trans HH.out); replace HB := Aside0.mk (below_then HB.out HB.out.size hb); have y0 := blkc HH.out 0 rfl; have y1 := blkc HH.out 1 rfl; have y2 := blkc HH.out 2 rfl;  clear hb)
    | (go_at_call 23; refine Calls.mono (HRo.out _) ?_; rintro e w2 ⟨rfl, hb⟩; replace HH := Aside0.mk ((hb.block _ (heap_lt HH.out)).trans HH.out); replace HB := Aside0.mk (below_then HB.out HB.out.size hb); have y0 := blkc HH.out 0 rfl; have y1 := blkc HH.out 1 rfl; have y2 := blkc HH.out 2 rfl;  clear hb)
    | (go_at_call 24; with_reducible refine Calls.mono (H1.out _ HB.out) ?_; rintro e w2 ⟨rfl, hb⟩; replace HH := Aside0.mk ((hb.block _ (heap_lt HH.out)).trans HH.out); replace HB := Aside0.mk (below_then HB.out HB.out.size hb); have y0 := blkc HH.out 0 rfl; have y1 := blkc HH.out 1 rfl; have y2 := blkc HH.out 2 rfl; clear hb H1)
    | (go_at_call 24; with_reducible refine Calls.mono (H2.out _ HB.out) ?_; rintro e w2 ⟨v2, z2, rfl, hb⟩; replace HH := Aside0.mk ((hb.block _ (heap_lt HH.out)).trans HH.out); replace HB := Aside0.mk (below_then HB.out HB.out.size hb); have y0 := blkc HH.out 0 rfl; have y1 := blkc HH.out 1 rfl; have y2 := blkc HH.out 2 rfl; clear hb H2))
  go_ret
  exact ⟨rfl, HB.out⟩
set_option maxHeartbeats 16000000 in
set_option maxRecDepth 100000 in
theorem unlike5_other (w : World) {k p s : Nat} (hf : Fits k p s) (hsm : s ≤ 600 ∧ k ≤ 12) (A : Option Addr) (n c : Nat) (xs : List Int) (hA : KB.C w A n xs) (hx : bytes xs = true) (hnc : n ≤ c) (h0 : 0 < n) (hn : n ≤ k * roomN s) (sa sb : Nat) (hsa : sa < 18446744073709551616) (hsb : sb < 18446744073709551616) (row : Nat) (other at_ : Int) (hr1 : 1 ≤ row) (hr2 : row < p) (h : other < 1 ∨ (p : Int) ≤ other) : Calls Try.prog 5 #[.agg #[.int .i64 k, .int .i64 p, .int .i64 s], .int .u64 sa, .int .u64 sb, .int .i64 row, .int .i64 other, .slice A n c, .int .i64 at_] w fun e w' => e = .returned (.bool true) ∧ Below w.heap.size w w' := by
  have HK := Aside0.mk (fun (W : World) => known8 W)
  have HC := Aside0.mk (fun (W : World) => check22 W hf)
  have HRo := Aside0.mk (fun (W : World) => row23 W hf)
  have HS := Aside0.mk (fun (W : World) => small9_yes W hf true (by simp [hsm]))
  have HH := Aside0.mk (heap_alloc_last w (.cells #[.int .i64 k, .int .i64 p, .int .i64 s] 23))
  have HB := Aside0.mk (below_alloc (Below.refl w.heap.size w) (.cells #[.int .i64 k, .int .i64 p, .int .i64 s] 23))
  have H1 := Aside0.mk (fun (W : World) (hW : Below w.heap.size w W) => pages24_C W hf sa row A n c xs (Kd.C_below hA hW) hx hsa hr1 hr2 hn)
  have H2 := Aside0.mk (fun (W : World) (hW : Below w.heap.size w W) => pages24_row W hf sb other A n c h)
  generalize k * roomN s = N at *
  have d2 : ((n : Int) == 0) = false := beq_eq_false_iff_ne.mpr (by omega)
  have d3 : decide ((N : Int) < (n : Int)) = false := decide_eq_false (by omega)
  have d4 : decide (N < n) = false := decide_eq_false (by omega)
  clear hf hA hx hsm h hr1 hr2
  go_enter Try.func5, Try.ntmps5
  go_wp2_with (first
    | (go_at_call 8; refine Calls.mono (HK.out _) ?_; rintro e w2 ⟨rfl, hb⟩; replace HH := Aside0.mk ((hb.block _ (heap_lt HH.out)).trans HH.out); replace HB := Aside0.mk (below_then HB.out HB.out.size hb); have y0 := blkc HH.out 0 rfl; have y1 := blkc HH.out 1 rfl; have y2 := blkc HH.out 2 rfl;  clear hb)
    | (go_at_call 9; refine Calls.mono (HS.out _) ?_; rintro e w2 ⟨rfl, hb⟩; replace HH := Aside0.mk ((hb.block _ (heap_lt HH.out)).trans HH.out); replace HB := Aside0.mk (below_then HB.out HB.out.size hb); have y0 := blkc HH.out 0 rfl; have y1 := blkc HH.out 1 rfl; have y2 := blkc HH.out 2 rfl;  clear hb)
    | (go_at_call 22; refine Calls.mono (HC.out _) ?_; rintro e w2 ⟨rfl, hb⟩; replace HH := Aside0.mk ((hb.block _ (heap_lt HH.out)).trans HH.out); replace HB := Aside0.mk (below_then HB.out HB.out.size hb); have y0 := blkc HH.out 0 rfl; have y1 := blkc HH.out 1 rfl; have y2 := blkc HH.out 2 rfl;  clear hb)
    | (go_at_call 23; refine Calls.mono (HRo.out _) ?_; rintro e w2 ⟨rfl, hb⟩; replace HH := Aside0.mk ((hb.block _ (heap_lt HH.out)).trans HH.out); replace HB := Aside0.mk (below_then HB.out HB.out.size hb); have y0 := blkc HH.out 0 rfl; have y1 := blkc HH.out 1 rfl; have y2 := blkc HH.out 2 rfl;  clear hb)
    | (go_at_call 24; with_reducible refine Calls.mono (H1.out _ HB.out) ?_; rintro e w2 ⟨A1, c1, rfl, _, _, hb⟩; replace HH := Aside0.mk ((hb.block _ (heap_lt HH.out)).trans HH.out); replace HB := Aside0.mk (below_then HB.out HB.out.size hb); have y0 := blkc HH.out 0 rfl; have y1 := blkc HH.out 1 rfl; have y2 := blkc HH.out 2 rfl; clear hb H1)
    | (go_at_call 24; with_reducible refine Calls.mono (H2.out _ HB.out) ?_; rintro e w2 ⟨rfl, hb⟩; replace HH := Aside0.mk ((hb.block _ (heap_lt HH.out)).trans HH.out); replace HB := Aside0.mk (below_then HB.out HB.out.size hb); have y0 := blkc HH.out 0 rfl; have y1 := blkc HH.out 1 rfl; have y2 := blkc HH.out 2 rfl; clear hb H2))
  go_ret
  exact ⟨rfl, HB.out⟩
theorem rd_row (l : List (List Int)) (i : Nat) : rd_L1 l (i : Int) = Gf.row l i := by unfold rd_L1 Gf.row; rw [Int.toNat_natCast]
theorem eqs {s sa sb row other k r N : Nat} {zs : List Int} (hz : zs.length = N) (hN : k * r = N) (hb : bytes zs = true) (hsa : sa < 18446744073709551616) (hsb : sb < 18446744073709551616) (hr : row < 4096) (ho : other < 4096) (hk : k ≤ 32) (i q : Nat) (hi : i < k + 2) (hq : q < k + 2) :
    ((strOfNums (rd_L1 (pagesL s sa row (payL zs k r)) (i : Int))).toList == (strOfNums (rd_L1 (pagesL s sb other (payL zs k r)) (q : Int))).toList) = decide (sa = sb ∧ row = other ∧ i = q) := by
  have hp := fun i hi => payL_all (k := k) (r := r) (N := N) hz hN hb i hi
  rw [rd_row, rd_row, pagesL_row (by rw [payL_len]; exact hi), pagesL_row (by rw [payL_len]; exact hq)]
  have h1 := str_inj (pageL_bytes (sz := s) (s := sa) (r := row) (c := i) (hp i hi).2) (pageL_bytes (sz := s) (s := sb) (r := other) (c := q) (hp q hq).2)
  by_cases h : sa = sb ∧ row = other ∧ i = q
  · rw [decide_eq_true h, beq_iff_eq, h1]
    obtain ⟨rfl, rfl, rfl⟩ := h
    rfl
  · rw [decide_eq_false h, beq_eq_false_iff_ne]
    intro e
    have h2 := page_inj (by rw [(hp i hi).1, (hp q hq).1]) hsa hsb (by omega) (by omega) (by omega) (by omega) (h1.1 e)
    exact h ⟨h2.1, h2.2.1, h2.2.2.1⟩
theorem KB_cell {W : World} {g n : Nat} {xs : List Int} {y : Nat} (h : KB.C W (some ⟨g, 0, none⟩) n xs) (hy : y < n) : W.cell? ⟨g, y, none⟩ = some (.int .u8 (xs.getD y 0)) := by
  obtain ⟨h1, h2, h3⟩ := h
  obtain ⟨ad, e, h4⟩ := h3 (by omega)
  obtain rfl := Option.some.inj e
  have hx : xs[y]? = some (xs.getD y 0) := by rw [List.getD_eq_getElem?_getD, List.getElem?_eq_getElem (by rw [h1]; exact hy)]; rfl
  obtain ⟨c, _, hk, h5⟩ := h4 y _ hx
  have hk' : c = [.int .u8 (xs.getD y 0)] := hk
  have := h5 0 (.int .u8 (xs.getD y 0)) (by rw [hk']; rfl)
  rw [Addr.add_mid] at this
  simpa [KB, Kd.int, Kd.scalar] using this
theorem byte_at {xs : List Int} (h : bytes xs = true) (y : Nat) : ∃ b : Nat, xs.getD y 0 = (b : Int) ∧ b < 256 := by
  unfold bytes at h
  rw [List.all_eq_true] at h
  rw [List.getD_eq_getElem?_getD]
  rcases hq : xs[y]? with _ | q
  · exact ⟨0, rfl, by omega⟩
  · have := h q (List.mem_of_getElem? hq)
    simp only [Bool.and_eq_true, decide_eq_true_eq] at this
    exact ⟨q.toNat, by simp only [Option.getD_some]; omega, by omega⟩
set_option maxHeartbeats 16000000 in
set_option maxRecDepth 100000 in
theorem unlike5_on (w : World) {k p s : Nat} (hf : Fits k p s) (hsm : s ≤ 600 ∧ k ≤ 12) (A : Option Addr) (n c : Nat) (xs : List Int) (hA : KB.C w A n xs) (hx : bytes xs = true) (hnc : n ≤ c) (h0 : 0 < n) (hn : n ≤ k * roomN s) (sa sb : Nat) (hsa : sa < 18446744073709551616) (hsb : sb < 18446744073709551616) (row other : Nat) (at_ : Int) (hr1 : 1 ≤ row) (hr2 : row < p) (ho1 : 1 ≤ other) (ho2 : other < p) : Calls Try.prog 5 #[.agg #[.int .i64 k, .int .i64 p, .int .i64 s], .int .u64 sa, .int .u64 sb, .int .i64 row, .int .i64 other, .slice A n c, .int .i64 at_] w fun e w' => e = .returned (.bool true) ∧ Below w.heap.size w w' := by
  have HK := Aside0.mk (fun (W : World) => known8 W)
  have HC := Aside0.mk (fun (W : World) => check22 W hf)
  have HRo := Aside0.mk (fun (W : World) => row23 W hf)
  have HS := Aside0.mk (fun (W : World) => small9_yes W hf true (by simp [hsm]))
  have HH := Aside0.mk (heap_alloc_last w (.cells #[.int .i64 k, .int .i64 p, .int .i64 s] 23))
  have HB := Aside0.mk (below_alloc (Below.refl w.heap.size w) (.cells #[.int .i64 k, .int .i64 p, .int .i64 s] 23))
  have H1 := Aside0.mk (fun (W : World) (hW : Below w.heap.size w W) => pages24_C W hf sa row A n c xs (Kd.C_below hA hW) hx hsa hr1 hr2 hn)
  have H2 := Aside0.mk (fun (W : World) (hW : Below w.heap.size w W) => pages24_C W hf sb other A n c xs (Kd.C_below hA hW) hx hsb ho1 ho2 hn)
  have hxl : xs.length = n := Kd.C_len hA
  have hpl : (padL xs (k * roomN s)).length = k * roomN s := padL_len (by omega)
  have HE := Aside0.mk (fun i q hi hq => eqs (s := s) (sa := sa) (sb := sb) (row := row) (other := other) (k := k) (r := roomN s) hpl rfl (padL_bytes hx) hsa hsb (by have := hf.p2; omega) (by have := hf.p2; omega) hf.k2 i q hi hq)
  have HF := Aside0.mk hf
  have HA := Aside0.mk hA
  have HX := Aside0.mk hx
  have HXL := Aside0.mk hxl
  have HSA := Aside0.mk hsa
  have HR12 := Aside0.mk (And.intro hr1 hr2)
  have hk2 := hf.k2
  have hNN := row_lt hf
  generalize hL1 : pagesL s sa row (payL (padL xs (k * roomN s)) k (roomN s)) = L1 at *
  generalize hL2 : pagesL s sb other (payL (padL xs (k * roomN s)) k (roomN s)) = L2 at *
  have HL1 := Aside0.mk hL1
  clear hL2 hL1
  obtain ⟨N, hN⟩ : ∃ N, k * roomN s = N := ⟨_, rfl⟩
  have HN := Aside0.mk hN
  have HNn := Aside0.mk hn
  rw [hN] at hn hNN hpl HRo
  have d2 : ((n : Int) == 0) = false := beq_eq_false_iff_ne.mpr (by omega)
  have d3 : decide ((N : Int) < (n : Int)) = false := decide_eq_false (by omega)
  have d4 : decide (N < n) = false := decide_eq_false (by omega)
  clear hf hA hx hsm hr1 hr2 ho1 ho2 hsa hsb hxl hpl hN
  go_enter Try.func5, Try.ntmps5
  go_wp2_with (first
    | (go_at_call 8; refine Calls.mono (HK.out _) ?_; rintro e w2 ⟨rfl, hb⟩; replace HH := Aside0.mk ((hb.block _ (heap_lt HH.out)).trans HH.out); replace HB := Aside0.mk (below_then HB.out HB.out.size hb); have y0 := blkc HH.out 0 rfl; have y1 := blkc HH.out 1 rfl; have y2 := blkc HH.out 2 rfl;  clear hb)
    | (go_at_call 9; refine Calls.mono (HS.out _) ?_; rintro e w2 ⟨rfl, hb⟩; replace HH := Aside0.mk ((hb.block _ (heap_lt HH.out)).trans HH.out); replace HB := Aside0.mk (below_then HB.out HB.out.size hb); have y0 := blkc HH.out 0 rfl; have y1 := blkc HH.out 1 rfl; have y2 := blkc HH.out 2 rfl;  clear hb)
    | (go_at_call 22; refine Calls.mono (HC.out _) ?_; rintro e w2 ⟨rfl, hb⟩; replace HH := Aside0.mk ((hb.block _ (heap_lt HH.out)).trans HH.out); replace HB := Aside0.mk (below_then HB.out HB.out.size hb); have y0 := blkc HH.out 0 rfl; have y1 := blkc HH.out 1 rfl; have y2 := blkc HH.out 2 rfl;  clear hb)
    | (go_at_call 23; refine Calls.mono (HRo.out _) ?_; rintro e w2 ⟨rfl, hb⟩; replace HH := Aside0.mk ((hb.block _ (heap_lt HH.out)).trans HH.out); replace HB := Aside0.mk (below_then HB.out HB.out.size hb); have y0 := blkc HH.out 0 rfl; have y1 := blkc HH.out 1 rfl; have y2 := blkc HH.out 2 rfl;  clear hb)
    | (go_at_call 24; with_reducible refine Calls.mono (H1.out _ HB.out) ?_; rintro e w3 ⟨A1, c1, rfl, hX, hl1, hb⟩; replace HH := Aside0.mk ((hb.block _ (heap_lt HH.out)).trans HH.out); replace HB := Aside0.mk (below_then HB.out HB.out.size hb); have y0 := blkc HH.out 0 rfl; have y1 := blkc HH.out 1 rfl; have y2 := blkc HH.out 2 rfl; have HX1 := Aside0.mk hX; clear hb H1 hX)
    | (go_at_call 24; with_reducible refine Calls.mono (H2.out _ HB.out) ?_; rintro e w4 ⟨A2, c2, rfl, hY, hl2, hb⟩; replace HH := Aside0.mk ((hb.block _ (heap_lt HH.out)).trans HH.out); replace HB := Aside0.mk (below_then HB.out HB.out.size hb); have y0 := blkc HH.out 0 rfl; have y1 := blkc HH.out 1 rfl; have y2 := blkc HH.out 2 rfl; have HX2 := Aside0.mk (Kd.C_below HX1.out hb); have HY2 := Aside0.mk hY; clear hb H2 hY HX1))
  clear y0 y1 y2 HS HC HRo HK
  go_loopw [19] (fun iv W => ∃ i : Nat, i ≤ k + 2 ∧ iv = .int .i64 (i : Nat) ∧ Aside0 (Below w4.heap.size w4 W)) (fun iv _ => k + 2 - (intOf iv).toNat)
  case atStart => exact ⟨0, Nat.zero_le _, by simp, ⟨Below.refl _ _⟩⟩
  case round =>
    obtain ⟨i, hi, rfl, HBl⟩ := hrel
    by_cases hik : i < k + 2
    · have t1 : decide ((i : Int) < (k : Int) + 2) = true := decide_eq_true (by omega)
      go_wp2_with fail
      go_loopw [20] (fun kv W => ∃ q : Nat, q ≤ k + 2 ∧ kv = .int .i64 (q : Nat) ∧ Aside0 (Below w4.heap.size w4 W)) (fun kv _ => k + 2 - (intOf kv).toNat)
      case atStart => exact ⟨0, Nat.zero_le _, by simp, HBl⟩
      case round =>
        obtain ⟨q, hq, rfl, HBq⟩ := hrel
        rename_i wq
        by_cases hqk : q < k + 2
        · have t2 : decide ((q : Int) < (k : Int) + 2) = true := decide_eq_true (by omega)
          have HEE := HE.out i q hik hqk
          obtain ⟨ad1, B1, b1, e1, hx1, _, hs1⟩ := at_L1 (Kd.C_below HX2.out HBq.out) (i : Int) (by omega) (by omega)
          subst e1
          rw [Int.toNat_natCast] at hx1
          obtain ⟨ad2, B2, b2, e2, hx2, _, hs2⟩ := at_L1 (Kd.C_below HY2.out HBq.out) (q : Int) (by omega) (by omega)
          subst e2
          rw [Int.toNat_natCast] at hx2
          have HS1 := Aside0.mk hs1
          have HS2 := Aside0.mk hs2
          clear hs1 hs2
          have cv1 := Kd.C_string (P := Try.prog) (A := B1) (c := b1) Try.underlying37 Try.underlying5 Try.underlying9 HS1.out
          have cq1 := fun n_ : Nat => Kd.C_string (P := Try.prog) (A := B1) (c := b1) Try.underlying37 Try.underlying5 Try.underlying9 (Kd.C_drewN HS1.out n_)
          have cv2 := Kd.C_string (P := Try.prog) (A := B2) (c := b2) Try.underlying37 Try.underlying5 Try.underlying9 HS2.out
          have cq2 := fun n_ : Nat => Kd.C_string (P := Try.prog) (A := B2) (c := b2) Try.underlying37 Try.underlying5 Try.underlying9 (Kd.C_drewN HS2.out n_)
          have p1 := eq_true (show (0 : Int) ≤ (i : Int) by omega)
          have p2 := eq_true (show (0 : Int) ≤ (q : Int) by omega)
          have p3 := eq_true (show (i : Int) < (k : Int) + 2 by omega)
          have p4 := eq_true (show (q : Int) < (k : Int) + 2 by omega)
          by_cases g1 : sa = sb
          · have f1 : ((sa : Int) == (sb : Int)) = true := beq_iff_eq.mpr (by omega)
            have f1n : (sa == sb) = true := beq_iff_eq.mpr (by omega)
            have f1d : decide (sa = sb) = true := decide_eq_true (by omega)
            by_cases g2 : row = other
            · have f2 : ((row : Int) == (other : Int)) = true := beq_iff_eq.mpr (by omega)
              have f2n : (row == other) = true := beq_iff_eq.mpr (by omega)
              have f2d : decide (row = other) = true := decide_eq_true (by omega)
              by_cases g3 : i = q
              · have f3 : ((i : Int) == (q : Int)) = true := beq_iff_eq.mpr (by omega)
                have f3n : (i == q) = true := beq_iff_eq.mpr (by omega)
                have f3d : decide (i = q) = true := decide_eq_true (by omega)
                rw [decide_eq_true ⟨g1, g2, g3⟩] at HEE
                clear g1 g2 g3
                go_wp2
                repeat (go_quiet (fail); try go_wp2)
                go_roundw
                case measure => simp [intOf]; omega
                case rel => exact ⟨q + 1, by omega, by go_num, ⟨pw_below_drewN HBq.out _⟩⟩
              · have f3 : ((i : Int) == (q : Int)) = false := beq_eq_false_iff_ne.mpr (by omega)
                have f3n : (i == q) = false := beq_eq_false_iff_ne.mpr (by omega)
                have f3d : decide (i = q) = false := decide_eq_false (by omega)
                rw [decide_eq_false (fun h => g3 h.2.2)] at HEE
                clear g1 g2 g3
                go_wp2
                repeat (go_quiet (fail); try go_wp2)
                go_roundw
                case measure => simp [intOf]; omega
                case rel => exact ⟨q + 1, by omega, by go_num, ⟨pw_below_drewN HBq.out _⟩⟩
            · have f2 : ((row : Int) == (other : Int)) = false := beq_eq_false_iff_ne.mpr (by omega)
              have f2n : (row == other) = false := beq_eq_false_iff_ne.mpr (by omega)
              have f2d : decide (row = other) = false := decide_eq_false (by omega)
              rw [decide_eq_false (fun h => g2 h.2.1)] at HEE
              clear g1 g2
              go_wp2
              repeat (go_quiet (fail); try go_wp2)
              go_roundw
              case measure => simp [intOf]; omega
              case rel => exact ⟨q + 1, by omega, by go_num, ⟨pw_below_drewN HBq.out _⟩⟩
          · have f1 : ((sa : Int) == (sb : Int)) = false := beq_eq_false_iff_ne.mpr (by omega)
            have f1n : (sa == sb) = false := beq_eq_false_iff_ne.mpr (by omega)
            have f1d : decide (sa = sb) = false := decide_eq_false (by omega)
            rw [decide_eq_false (fun h => g1 h.1)] at HEE
            clear g1
            go_wp2
            repeat (go_quiet (fail); try go_wp2)
            go_roundw
            case measure => simp [intOf]; omega
            case rel => exact ⟨q + 1, by omega, by go_num, ⟨pw_below_drewN HBq.out _⟩⟩
        · obtain rfl : q = k + 2 := by omega
          have t2 : decide (((k + 2 : Nat) : Int) < (k : Int) + 2) = false := decide_eq_false (by omega)
          have t3 : decide ((k : Int) + 2 < (k : Int) + 2) = false := decide_eq_false (by omega)
          go_wp2_with fail
          go_roundw
          case measure => simp [intOf]; omega
          case rel => exact ⟨i + 1, by omega, by go_num, HBq⟩
    · obtain rfl : i = k + 2 := by omega
      have t1 : decide (((k + 2 : Nat) : Int) < (k : Int) + 2) = false := decide_eq_false (by omega)
      have t3 : decide ((k : Int) + 2 < (k : Int) + 2) = false := decide_eq_false (by omega)
      have hn0 : (n : Int) ≠ 0 := by omega
      have HBW := Aside0.mk (below_then HB.out HB.out.size HBl.out)
      obtain ⟨t, ht⟩ : ∃ t, Int.tmod at_ (n : Int) = t := ⟨_, rfl⟩
      have ht1 : t < n := by rw [← ht]; exact Int.tmod_lt_of_pos _ (by omega)
      have ht2 : -(n : Int) < t := by rw [← ht]; have := Int.lt_tmod_of_pos at_ (b := (n : Int)) (by omega); omega
      by_cases hneg : t < 0
      · have f0 : decide (t < 0) = true := decide_eq_true hneg
        obtain ⟨y, hy0⟩ : ∃ y : Nat, t + (n : Int) = y := ⟨(t + n).toNat, by omega⟩
        have hy : y < n := by omega
        obtain ⟨b0, heb, hb0⟩ := byte_at HX.out y
        have HXR := Aside0.mk (show Go.bits .xor .u8 (b0 : Int) 1 = ((b0 ^^^ 1 : Nat) : Int) from xor_nat b0 1 hb0 (by omega))
        have heb := Aside0.mk heb
        go_upto_region 20 with fail
        clear hneg f0 hy0 ht ht1 ht2 hn0 t1 t3
        go_upto_region 22 with (first
          | ((with_reducible refine gate_dst (N := 116) rfl ?_); refine Kd.R_lit (Kd.int .u8) (w0 := wr) wr.heap.size 5 ?hg (N := 116) ?hd (xs := ([] : List Int)) (inner := []) (ok := fun _ => True) (okp := fun _ => True) ?hr ?hp (fun _ hk => hk) trivial (Below.refl _ _) (Nat.le_refl _) (by simp) ?_; (case hd => rfl); (case hg => rfl); (case hr => first | (go_simp; done) | (go_simp; rfl)); (case hp => exact (Reps.none _ _)); intro v1 w5 ho hb hg_ hnew_; clear hg_ hnew_; have HO := Aside0.mk ho; have HB5 := Aside0.mk hb; clear ho hb)
          | ((with_reducible refine gate_builtin (b := .append) (xs := #[.tmp 116, .tmp 117]) rfl ?_); refine Kd.R_append_rows (Kd.int .u8) (Rr := (Kd.int .u8).K _) (w0 := wr) wr.heap.size rfl (.tmp 116) (.tmp 117) 37 5 _ 1 rfl Try.underlying37 Go.Proofs.Ytjnicooboiijgaa.PSg.info5 rfl (by decide) (by decide) _ [] xs A n c (fun _ => True) (fun _ => False) rfl rfl HO.out (Kd.C_below HA.out (below_then HBW.out HBW.out.size HB5.out)) (fun x cs h => h) (fun _ h => h.elim) (fun _ _ => trivial) HB5.out HB5.out.size (by simp; omega) ?_
             intro v2 w6 hR2 hB2 hg2 hat
             have hR2' : KB.R 5 w6 wr.heap.size (fun _ => True) v2 xs := hR2
             obtain ⟨ab, cap, ev, hab, hab2, cells, hcells⟩ := Kd.R_form hR2' (by rw [HXL.out]; exact h0)
             rw [HXL.out] at ev
             subst ev
             have hC6 := (Kd.R_reads' hR2').2.2
             rw [HXL.out] at hC6
             have cy : w6.cell? ⟨ab, y, none⟩ = some (.int .u8 (b0 : Int)) := by rw [KB_cell hC6 hy, heb.out]
             have fy : w6.frozen? ⟨ab, y, none⟩ = false := frozen_blk hcells
             have HR6 := Aside0.mk hR2'
             have HB6 := Aside0.mk hB2
             have HAB := Aside0.mk hab
             clear hC6 hR2 hR2' hB2 hg2 hat hab hab2 hcells HO HB5))
        rw [HXR.out]
        have hBr : Below wr.heap.size wr (w6.setCell ⟨ab, y, none⟩ (.int .u8 ((b0 ^^^ 1 : Nat) : Int))) := below_set HB6.out HAB.out
        have hRt : KB.R 5 (w6.setCell ⟨ab, y, none⟩ (.int .u8 ((b0 ^^^ 1 : Nat) : Int))) wr.heap.size (fun _ => True) (.slice (some ⟨ab, 0, none⟩) n cap) (turn xs y) := by
          have h := Kd.R_putn (enc := Value.int .u8) (h1 := fun _ => rfl) HR6.out (y : Int) (((b0 ^^^ 1 : Nat) : Int))
          rw [Int.toNat_natCast] at h
          unfold turn
          rw [heb.out, Int.toNat_natCast]
          exact h
        generalize w6.setCell ⟨ab, y, none⟩ (.int .u8 ((b0 ^^^ 1 : Nat) : Int)) = w7 at hBr hRt ⊢
        have hxl2 : (turn xs y).length = n := by rw [turn_len]; exact HXL.out
        have hCt := (Kd.R_reads' hRt).2.2
        rw [hxl2] at hCt
        have H3 := Aside0.mk (pages24_C w7 HF.out sa row (some ⟨ab, 0, none⟩) n cap (turn xs y) hCt (turn_bytes HX.out) HSA.out HR12.out.1 HR12.out.2 HNn.out)
        rw [turn_pad (by rw [HXL.out]; exact hy)] at H3
        have hps := HF.out
        have hpl : (padL xs N).length = N := padL_len (by rw [HXL.out]; exact hn)
        have hpb := padL_bytes (N := N) HX.out
        have hrp := room_pos hps.s1 hps.s2
        have hyN : y < (padL xs N).length := by omega
        have hlN : (padL xs N).length = k * roomN s := by rw [hpl, HN.out]
        have HPA := Aside0.mk (fun i hi => payL_all (k := k) (r := roomN s) (N := N) hpl HN.out hpb i hi)
        have HPT := Aside0.mk (fun i hi => payL_all (k := k) (r := roomN s) (N := N) (xs := turn (padL xs N) y) (by rw [turn_len]; exact hpl) HN.out (turn_bytes hpb) i hi)
        have HD := Aside0.mk (fun i hi => pay_turn (k := k) (r := roomN s) (y := y) hpb hlN hyN (by omega) i hi)
        have hqk : y / roomN s < k := Nat.div_lt_of_lt_mul (by rw [Nat.mul_comm, HN.out]; omega)
        have hL1 := HL1.out
        rw [HN.out] at H3 hL1
        have HR1 := Aside0.mk (fun i (hi : i < k + 2) => (by rw [← hL1, pagesL_row (by rw [payL_len]; exact hi)] : Gf.row L1 i = pageL s sa row i (Gf.row (payL (padL xs N) k (roomN s)) i)))
        generalize hL3 : pagesL s sa row (payL (turn (padL xs N) y) k (roomN s)) = L3 at H3
        have HR3 := Aside0.mk (fun i (hi : i < k + 2) => (by rw [← hL3, pagesL_row (by rw [payL_len]; exact hi)] : Gf.row L3 i = pageL s sa row i (Gf.row (payL (turn (padL xs N) y) k (roomN s)) i)))
        have hrow : row < 4294967296 := by have := HR12.out.2; have := hps.p2; omega
        have HQ := Aside0.mk (show ∀ i, i < k + 2 → ((strOfNums (rd_L1 L1 (i : Int))).toList = (strOfNums (rd_L1 L3 (i : Int))).toList ↔ Gf.row L1 i = Gf.row L3 i) from fun i hi => by
          rw [rd_row, rd_row]
          exact str_inj (by rw [HR1.out i hi]; exact pageL_bytes (HPA.out i hi).2) (by rw [HR3.out i hi]; exact pageL_bytes (HPT.out i hi).2))
        have H3d := Aside0.mk (show diffs L1 L3 (k + 2) = 3 from diffs_three (q := y / roomN s) hqk fun i hi => by
          rw [← HD.out i hi, HR1.out i hi, HR3.out i hi]
          refine ⟨fun h e => h (by rw [e]), fun h e => h ?_⟩
          exact ((page_inj (by rw [(HPA.out i hi).1, (HPT.out i hi).1]) HSA.out HSA.out hrow hrow (by omega) (by omega) e).2.2.2).symm)
        have HHr := Aside0.mk ((hBr.block _ (heap_lt ((HBl.out.block _ (heap_lt HH.out)).trans HH.out))).trans ((HBl.out.block _ (heap_lt HH.out)).trans HH.out))
        have HBr := Aside0.mk (below_then HBW.out HBW.out.size hBr)
        have HX7 := Aside0.mk (Kd.C_below (Kd.C_below HX2.out HBl.out) hBr)
        have y0 := blkc HHr.out 0 rfl
        have y1 := blkc HHr.out 1 rfl
        have y2 := blkc HHr.out 2 rfl
        clear hBr hRt hxl2 hCt hps hpl hpb hrp hyN hlN HPA HPT HD hqk hL1 HR1 hL3 HR3 hrow HL1
        go_wp2_with (go_at_call 24; refine Calls.mono H3.out ?_; rintro e w8 ⟨A3, c3, rfl, hZ, hl3, hb⟩; have HX8 := Aside0.mk (Kd.C_below HX7.out hb); have HZ8 := Aside0.mk hZ; have HB8 := Aside0.mk (below_then HBr.out HBr.out.size hb); clear hZ hb H3)
        go_loopw [23, 24] (fun cv iv W => ∃ i : Nat, i ≤ k + 2 ∧ cv = .int .i64 (diffs L1 L3 i : Nat) ∧ iv = .int .i64 (i : Nat) ∧ Aside0 (Below w8.heap.size w8 W)) (fun _ iv _ => k + 2 - (intOf iv).toNat)
        case atStart => exact ⟨0, Nat.zero_le _, by simp [diffs], by simp, ⟨Below.refl _ _⟩⟩
        case round =>
          obtain ⟨i, hi, rfl, rfl, HBi⟩ := hrel
          by_cases hik : i < k + 2
          · have t1 : decide ((i : Int) < (k : Int) + 2) = true := decide_eq_true (by omega)
            have hQi := HQ.out i hik
            have hle := diffs_le L1 L3 i
            obtain ⟨ad1, B1, b1, e1, hx1, _, hs1⟩ := at_L1 (Kd.C_below HX8.out HBi.out) (i : Int) (by omega) (by omega)
            subst e1
            rw [Int.toNat_natCast] at hx1
            obtain ⟨ad3, B3, b3, e3, hx3, _, hs3⟩ := at_L1 (Kd.C_below HZ8.out HBi.out) (i : Int) (by omega) (by omega)
            subst e3
            rw [Int.toNat_natCast] at hx3
            have HS1 := Aside0.mk hs1
            have HS3 := Aside0.mk hs3
            clear hs1 hs3
            have cv1 := Kd.C_string (P := Try.prog) (A := B1) (c := b1) Try.underlying37 Try.underlying5 Try.underlying9 HS1.out
            have cq1 := fun n_ : Nat => Kd.C_string (P := Try.prog) (A := B1) (c := b1) Try.underlying37 Try.underlying5 Try.underlying9 (Kd.C_drewN HS1.out n_)
            have cv3 := Kd.C_string (P := Try.prog) (A := B3) (c := b3) Try.underlying37 Try.underlying5 Try.underlying9 HS3.out
            have cq3 := fun n_ : Nat => Kd.C_string (P := Try.prog) (A := B3) (c := b3) Try.underlying37 Try.underlying5 Try.underlying9 (Kd.C_drewN HS3.out n_)
            have p1 := eq_true (show (0 : Int) ≤ (i : Int) by omega)
            have p3 := eq_true (show (i : Int) < (k : Int) + 2 by omega)
            by_cases hg : Gf.row L1 i = Gf.row L3 i
            · have f1 : ((strOfNums (rd_L1 L1 (i : Int))).toList == (strOfNums (rd_L1 L3 (i : Int))).toList) = true := beq_iff_eq.mpr (hQi.2 hg)
              have f2 : ((strOfNums (rd_L1 L1 (i : Int))).toList != (strOfNums (rd_L1 L3 (i : Int))).toList) = false := bne_eq_false_iff_eq.mpr (hQi.2 hg)
              have hds : diffs L1 L3 (i + 1) = diffs L1 L3 i := by show diffs L1 L3 i + _ = _; rw [if_pos hg]; omega
              have HDS := Aside0.mk hds
              generalize diffs L1 L3 i = dd at *
              clear hQi hg hds
              go_wp2
              repeat (go_quiet (fail); try go_wp2)
              go_roundw
              case measure => simp [intOf]; omega
              case rel => exact ⟨i + 1, by omega, by rw [HDS.out], by go_num, ⟨pw_below_drewN HBi.out _⟩⟩
            · have f1 : ((strOfNums (rd_L1 L1 (i : Int))).toList == (strOfNums (rd_L1 L3 (i : Int))).toList) = false := beq_eq_false_iff_ne.mpr (fun e => hg (hQi.1 e))
              have f2 : ((strOfNums (rd_L1 L1 (i : Int))).toList != (strOfNums (rd_L1 L3 (i : Int))).toList) = true := bne_iff_ne.mpr (fun e => hg (hQi.1 e))
              have hds : diffs L1 L3 (i + 1) = diffs L1 L3 i + 1 := by show diffs L1 L3 i + _ = _; rw [if_neg hg]
              have HDS := Aside0.mk hds
              generalize diffs L1 L3 i = dd at *
              clear hQi hg hds
              go_wp2
              repeat (go_quiet (fail); try go_wp2)
              go_roundw
              case measure => simp [intOf]; omega
              case rel => exact ⟨i + 1, by omega, by rw [HDS.out]; go_num, by go_num, ⟨pw_below_drewN HBi.out _⟩⟩
          · obtain rfl : i = k + 2 := by omega
            have t1 : decide (((k + 2 : Nat) : Int) < (k : Int) + 2) = false := decide_eq_false (by omega)
            have t3 : decide ((k : Int) + 2 < (k : Int) + 2) = false := decide_eq_false (by omega)
            rw [H3d.out]
            go_wp2_with fail
            go_ret
            exact ⟨rfl, below_then HB8.out HB8.out.size HBi.out⟩
      · have f0 : decide (t < 0) = false := decide_eq_false hneg
        obtain ⟨y, rfl⟩ : ∃ y : Nat, t = y := ⟨t.toNat, by omega⟩
        have hy : y < n := by omega
        obtain ⟨b0, heb, hb0⟩ := byte_at HX.out y
        have HXR := Aside0.mk (show Go.bits .xor .u8 (b0 : Int) 1 = ((b0 ^^^ 1 : Nat) : Int) from xor_nat b0 1 hb0 (by omega))
        have heb := Aside0.mk heb
        go_upto_region 20 with fail
        clear hneg f0 ht ht1 ht2 hn0 t1 t3
        go_upto_region 22 with (first
          | ((with_reducible refine gate_dst (N := 116) rfl ?_); refine Kd.R_lit (Kd.int .u8) (w0 := wr) wr.heap.size 5 ?hg (N := 116) ?hd (xs := ([] : List Int)) (inner := []) (ok := fun _ => True) (okp := fun _ => True) ?hr ?hp (fun _ hk => hk) trivial (Below.refl _ _) (Nat.le_refl _) (by simp) ?_; (case hd => rfl); (case hg => rfl); (case hr => first | (go_simp; done) | (go_simp; rfl)); (case hp => exact (Reps.none _ _)); intro v1 w5 ho hb hg_ hnew_; clear hg_ hnew_; have HO := Aside0.mk ho; have HB5 := Aside0.mk hb; clear ho hb)
          | ((with_reducible refine gate_builtin (b := .append) (xs := #[.tmp 116, .tmp 117]) rfl ?_); refine Kd.R_append_rows (Kd.int .u8) (Rr := (Kd.int .u8).K _) (w0 := wr) wr.heap.size rfl (.tmp 116) (.tmp 117) 37 5 _ 1 rfl Try.underlying37 Go.Proofs.Ytjnicooboiijgaa.PSg.info5 rfl (by decide) (by decide) _ [] xs A n c (fun _ => True) (fun _ => False) rfl rfl HO.out (Kd.C_below HA.out (below_then HBW.out HBW.out.size HB5.out)) (fun x cs h => h) (fun _ h => h.elim) (fun _ _ => trivial) HB5.out HB5.out.size (by simp; omega) ?_
             intro v2 w6 hR2 hB2 hg2 hat
             have hR2' : KB.R 5 w6 wr.heap.size (fun _ => True) v2 xs := hR2
             obtain ⟨ab, cap, ev, hab, hab2, cells, hcells⟩ := Kd.R_form hR2' (by rw [HXL.out]; exact h0)
             rw [HXL.out] at ev
             subst ev
             have hC6 := (Kd.R_reads' hR2').2.2
             rw [HXL.out] at hC6
             have cy : w6.cell? ⟨ab, y, none⟩ = some (.int .u8 (b0 : Int)) := by rw [KB_cell hC6 hy, heb.out]
             have fy : w6.frozen? ⟨ab, y, none⟩ = false := frozen_blk hcells
             have HR6 := Aside0.mk hR2'
             have HB6 := Aside0.mk hB2
             have HAB := Aside0.mk hab
             clear hC6 hR2 hR2' hB2 hg2 hat hab hab2 hcells HO HB5))
        rw [HXR.out]
        have hBr : Below wr.heap.size wr (w6.setCell ⟨ab, y, none⟩ (.int .u8 ((b0 ^^^ 1 : Nat) : Int))) := below_set HB6.out HAB.out
        have hRt : KB.R 5 (w6.setCell ⟨ab, y, none⟩ (.int .u8 ((b0 ^^^ 1 : Nat) : Int))) wr.heap.size (fun _ => True) (.slice (some ⟨ab, 0, none⟩) n cap) (turn xs y) := by
          have h := Kd.R_putn (enc := Value.int .u8) (h1 := fun _ => rfl) HR6.out (y : Int) (((b0 ^^^ 1 : Nat) : Int))
          rw [Int.toNat_natCast] at h
          unfold turn
          rw [heb.out, Int.toNat_natCast]
          exact h
        generalize w6.setCell ⟨ab, y, none⟩ (.int .u8 ((b0 ^^^ 1 : Nat) : Int)) = w7 at hBr hRt ⊢
        have hxl2 : (turn xs y).length = n := by rw [turn_len]; exact HXL.out
        have hCt := (Kd.R_reads' hRt).2.2
        rw [hxl2] at hCt
        have H3 := Aside0.mk (pages24_C w7 HF.out sa row (some ⟨ab, 0, none⟩) n cap (turn xs y) hCt (turn_bytes HX.out) HSA.out HR12.out.1 HR12.out.2 HNn.out)
        rw [turn_pad (by rw [HXL.out]; exact hy)] at H3
        have hps := HF.out
        have hpl : (padL xs N).length = N := padL_len (by rw [HXL.out]; exact hn)
        have hpb := padL_bytes (N := N) HX.out
        have hrp := room_pos hps.s1 hps.s2
        have hyN : y < (padL xs N).length := by omega
        have hlN : (padL xs N).length = k * roomN s := by rw [hpl, HN.out]
        have HPA := Aside0.mk (fun i hi => payL_all (k := k) (r := roomN s) (N := N) hpl HN.out hpb i hi)
        have HPT := Aside0.mk (fun i hi => payL_all (k := k) (r := roomN s) (N := N) (xs := turn (padL xs N) y) (by rw [turn_len]; exact hpl) HN.out (turn_bytes hpb) i hi)
        have HD := Aside0.mk (fun i hi => pay_turn (k := k) (r := roomN s) (y := y) hpb hlN hyN (by omega) i hi)
        have hqk : y / roomN s < k := Nat.div_lt_of_lt_mul (by rw [Nat.mul_comm, HN.out]; omega)
        have hL1 := HL1.out
        rw [HN.out] at H3 hL1
        have HR1 := Aside0.mk (fun i (hi : i < k + 2) => (by rw [← hL1, pagesL_row (by rw [payL_len]; exact hi)] : Gf.row L1 i = pageL s sa row i (Gf.row (payL (padL xs N) k (roomN s)) i)))
        generalize hL3 : pagesL s sa row (payL (turn (padL xs N) y) k (roomN s)) = L3 at H3
        have HR3 := Aside0.mk (fun i (hi : i < k + 2) => (by rw [← hL3, pagesL_row (by rw [payL_len]; exact hi)] : Gf.row L3 i = pageL s sa row i (Gf.row (payL (turn (padL xs N) y) k (roomN s)) i)))
        have hrow : row < 4294967296 := by have := HR12.out.2; have := hps.p2; omega
        have HQ := Aside0.mk (show ∀ i, i < k + 2 → ((strOfNums (rd_L1 L1 (i : Int))).toList = (strOfNums (rd_L1 L3 (i : Int))).toList ↔ Gf.row L1 i = Gf.row L3 i) from fun i hi => by
          rw [rd_row, rd_row]
          exact str_inj (by rw [HR1.out i hi]; exact pageL_bytes (HPA.out i hi).2) (by rw [HR3.out i hi]; exact pageL_bytes (HPT.out i hi).2))
        have H3d := Aside0.mk (show diffs L1 L3 (k + 2) = 3 from diffs_three (q := y / roomN s) hqk fun i hi => by
          rw [← HD.out i hi, HR1.out i hi, HR3.out i hi]
          refine ⟨fun h e => h (by rw [e]), fun h e => h ?_⟩
          exact ((page_inj (by rw [(HPA.out i hi).1, (HPT.out i hi).1]) HSA.out HSA.out hrow hrow (by omega) (by omega) e).2.2.2).symm)
        have HHr := Aside0.mk ((hBr.block _ (heap_lt ((HBl.out.block _ (heap_lt HH.out)).trans HH.out))).trans ((HBl.out.block _ (heap_lt HH.out)).trans HH.out))
        have HBr := Aside0.mk (below_then HBW.out HBW.out.size hBr)
        have HX7 := Aside0.mk (Kd.C_below (Kd.C_below HX2.out HBl.out) hBr)
        have y0 := blkc HHr.out 0 rfl
        have y1 := blkc HHr.out 1 rfl
        have y2 := blkc HHr.out 2 rfl
        clear hBr hRt hxl2 hCt hps hpl hpb hrp hyN hlN HPA HPT HD hqk hL1 HR1 hL3 HR3 hrow HL1
        go_wp2_with (go_at_call 24; refine Calls.mono H3.out ?_; rintro e w8 ⟨A3, c3, rfl, hZ, hl3, hb⟩; have HX8 := Aside0.mk (Kd.C_below HX7.out hb); have HZ8 := Aside0.mk hZ; have HB8 := Aside0.mk (below_then HBr.out HBr.out.size hb); clear hZ hb H3)
        go_loopw [23, 24] (fun cv iv W => ∃ i : Nat, i ≤ k + 2 ∧ cv = .int .i64 (diffs L1 L3 i : Nat) ∧ iv = .int .i64 (i : Nat) ∧ Aside0 (Below w8.heap.size w8 W)) (fun _ iv _ => k + 2 - (intOf iv).toNat)
        case atStart => exact ⟨0, Nat.zero_le _, by simp [diffs], by simp, ⟨Below.refl _ _⟩⟩
        case round =>
          obtain ⟨i, hi, rfl, rfl, HBi⟩ := hrel
          by_cases hik : i < k + 2
          · have t1 : decide ((i : Int) < (k : Int) + 2) = true := decide_eq_true (by omega)
            have hQi := HQ.out i hik
            have hle := diffs_le L1 L3 i
            obtain ⟨ad1, B1, b1, e1, hx1, _, hs1⟩ := at_L1 (Kd.C_below HX8.out HBi.out) (i : Int) (by omega) (by omega)
            subst e1
            rw [Int.toNat_natCast] at hx1
            obtain ⟨ad3, B3, b3, e3, hx3, _, hs3⟩ := at_L1 (Kd.C_below HZ8.out HBi.out) (i : Int) (by omega) (by omega)
            subst e3
            rw [Int.toNat_natCast] at hx3
            have HS1 := Aside0.mk hs1
            have HS3 := Aside0.mk hs3
            clear hs1 hs3
            have cv1 := Kd.C_string (P := Try.prog) (A := B1) (c := b1) Try.underlying37 Try.underlying5 Try.underlying9 HS1.out
            have cq1 := fun n_ : Nat => Kd.C_string (P := Try.prog) (A := B1) (c := b1) Try.underlying37 Try.underlying5 Try.underlying9 (Kd.C_drewN HS1.out n_)
            have cv3 := Kd.C_string (P := Try.prog) (A := B3) (c := b3) Try.underlying37 Try.underlying5 Try.underlying9 HS3.out
            have cq3 := fun n_ : Nat => Kd.C_string (P := Try.prog) (A := B3) (c := b3) Try.underlying37 Try.underlying5 Try.underlying9 (Kd.C_drewN HS3.out n_)
            have p1 := eq_true (show (0 : Int) ≤ (i : Int) by omega)
            have p3 := eq_true (show (i : Int) < (k : Int) + 2 by omega)
            by_cases hg : Gf.row L1 i = Gf.row L3 i
            · have f1 : ((strOfNums (rd_L1 L1 (i : Int))).toList == (strOfNums (rd_L1 L3 (i : Int))).toList) = true := beq_iff_eq.mpr (hQi.2 hg)
              have f2 : ((strOfNums (rd_L1 L1 (i : Int))).toList != (strOfNums (rd_L1 L3 (i : Int))).toList) = false := bne_eq_false_iff_eq.mpr (hQi.2 hg)
              have hds : diffs L1 L3 (i + 1) = diffs L1 L3 i := by show diffs L1 L3 i + _ = _; rw [if_pos hg]; omega
              have HDS := Aside0.mk hds
              generalize diffs L1 L3 i = dd at *
              clear hQi hg hds
              go_wp2
              repeat (go_quiet (fail); try go_wp2)
              go_roundw
              case measure => simp [intOf]; omega
              case rel => exact ⟨i + 1, by omega, by rw [HDS.out], by go_num, ⟨pw_below_drewN HBi.out _⟩⟩
            · have f1 : ((strOfNums (rd_L1 L1 (i : Int))).toList == (strOfNums (rd_L1 L3 (i : Int))).toList) = false := beq_eq_false_iff_ne.mpr (fun e => hg (hQi.1 e))
              have f2 : ((strOfNums (rd_L1 L1 (i : Int))).toList != (strOfNums (rd_L1 L3 (i : Int))).toList) = true := bne_iff_ne.mpr (fun e => hg (hQi.1 e))
              have hds : diffs L1 L3 (i + 1) = diffs L1 L3 i + 1 := by show diffs L1 L3 i + _ = _; rw [if_neg hg]
              have HDS := Aside0.mk hds
              generalize diffs L1 L3 i = dd at *
              clear hQi hg hds
              go_wp2
              repeat (go_quiet (fail); try go_wp2)
              go_roundw
              case measure => simp [intOf]; omega
              case rel => exact ⟨i + 1, by omega, by rw [HDS.out]; go_num, by go_num, ⟨pw_below_drewN HBi.out _⟩⟩
          · obtain rfl : i = k + 2 := by omega
            have t1 : decide (((k + 2 : Nat) : Int) < (k : Int) + 2) = false := decide_eq_false (by omega)
            have t3 : decide ((k : Int) + 2 < (k : Int) + 2) = false := decide_eq_false (by omega)
            rw [H3d.out]
            go_wp2_with fail
            go_ret
            exact ⟨rfl, below_then HB8.out HB8.out.size HBi.out⟩
theorem bytes_of {xs : List Int} (hw : ∀ x ∈ xs, (Lit.int .u8 x).wf = true) : bytes xs = true := by
  unfold bytes
  rw [List.all_eq_true]
  intro x hx
  have := hw x hx
  have e2 : IntKind.u8.min ≤ x ∧ x ≤ IntKind.u8.max := by simpa [Lit.wf] using this
  have h1 : IntKind.u8.min = 0 := rfl
  have h2 : IntKind.u8.max = 255 := rfl
  rw [h1, h2] at e2
  simp only [Bool.and_eq_true, decide_eq_true_eq]
  omega
theorem u64_of {a : Int} (h : (Lit.int .u64 a).wf = true) : ∃ n : Nat, a = n ∧ n < 18446744073709551616 := by
  have e2 : IntKind.u64.min ≤ a ∧ a ≤ IntKind.u64.max := by simpa [Lit.wf] using h
  have h1 : IntKind.u64.min = 0 := rfl
  have h2 : IntKind.u64.max = 18446744073709551615 := rfl
  rw [h1, h2] at e2
  exact ⟨a.toNat, by omega, by omega⟩
theorem unlike5 (w : World) (x y z a : Int) (wa : (Lit.int .u64 a).wf = true) (b : Int) (wb : (Lit.int .u64 b).wf = true) (row other : Int) (xs : List Int) (A : Option Addr) (c : Nat) (hA : KB.C w A xs.length xs) (hc : xs.length ≤ c) (hw : ∀ x ∈ xs, (Lit.int .u8 x).wf = true) (at_ : Int) :
    Calls Try.prog 5 #[.agg #[.int .i64 x, .int .i64 y, .int .i64 z], .int .u64 a, .int .u64 b, .int .i64 row, .int .i64 other, .slice A xs.length c, .int .i64 at_] w fun e w' => e = .returned (.bool true) ∧ Below w.heap.size w w' := by
  rcases check_any x y z with h | ⟨k, p, s, hf, rfl, rfl, rfl⟩
  · exact unlike5_no w x y z a b row other at_ A xs.length c h
  by_cases h : ¬ (s ≤ 600 ∧ k ≤ 12) ∨ xs.length = 0 ∨ k * roomN s < xs.length
  · exact unlike5_off w hf a b row other at_ A xs.length c h
  have hsm : s ≤ 600 ∧ k ≤ 12 := by by_cases h' : s ≤ 600 ∧ k ≤ 12; exact h'; exact absurd (.inl h') h
  have h0 : 0 < xs.length := by omega
  have hn : xs.length ≤ k * roomN s := by omega
  obtain ⟨sa, rfl, hsa⟩ := u64_of wa
  obtain ⟨sb, rfl, hsb⟩ := u64_of wb
  by_cases hr : row < 1 ∨ (p : Int) ≤ row
  · exact unlike5_row w hf hsm A xs.length c xs hA (bytes_of hw) hc h0 hn sa sb hsa hsb row other at_ hr
  obtain ⟨r, rfl⟩ : ∃ r : Nat, row = r := ⟨row.toNat, by omega⟩
  by_cases ho : other < 1 ∨ (p : Int) ≤ other
  · exact unlike5_other w hf hsm A xs.length c xs hA (bytes_of hw) hc h0 hn sa sb hsa hsb r other at_ (by omega) (by omega) ho
  obtain ⟨o, rfl⟩ : ∃ o : Nat, other = o := ⟨other.toNat, by omega⟩
  exact unlike5_on w hf hsm A xs.length c xs hA (bytes_of hw) hc h0 hn sa sb hsa hsb r o at_ (by omega) (by omega) (by omega) (by omega)
end Go.Proofs.Ytjnicooboiijgaa.Sg
