/-
  flintlaw9.SegHolds. (Printed by mkho.py.)
-/
import Derived.Test.YtjnicooboiijgaaSgHs
import Derived.Test.YtjnicooboiijgaaSgPq
set_option linter.unusedVariables false
set_option linter.unusedSimpArgs false
namespace Go.Proofs.Ytjnicooboiijgaa.Sg
open Go.RowKit Go.Proofs.YtjnicooboiijgaaW.PrintWords Go.Proofs.YtjnicooboiijgaaW.PrintLast Go.Proofs.YtjnicooboiijgaaW.PrintMore Go.Proofs.Ytjnicooboiijgaa.PSg Go.Proofs.Ytjnicooboiijgaa.Gf Go.Proofs.Ytjnicooboiijgaa.Rs
set_option maxHeartbeats 16000000 in
set_option maxRecDepth 100000 in
theorem holds4_no (w : World) (x y z seg : Int) (B : List (List Int)) (A : Option Addr) (n c : Nat) (hB : KR.C w A n B) (hn : B.length = n) (hc : n ≤ c) (hsum : (B.map fun r => r.length + 1).sum ≤ 1048576) (h : seg_Check.f x y z = some 1) : Calls Try.prog 4 #[.agg #[.int .i64 x, .int .i64 y, .int .i64 z], .int .u64 seg, .slice A n c] w fun e w' => e = .returned (.bool true) ∧ Below w.heap.size w w' := by
  have HK := Aside0.mk (fun (W : World) => known8 W)
  have HS := Aside0.mk (fun (W : World) => small9_no W h)
  have HC := Aside0.mk (fun (W : World) => seg_Check.calls x y z 1 W h)
  have HH := Aside0.mk (heap_alloc_last w (.cells #[.int .i64 x, .int .i64 y, .int .i64 z] 23))
  have HB := Aside0.mk (below_alloc (Below.refl w.heap.size w) (.cells #[.int .i64 x, .int .i64 y, .int .i64 z] 23))
  have hn9 : n ≤ 1048576 := by
    have := sumTo_sum B B.length (Nat.le_refl _)
    rw [List.take_length] at this
    omega
  have HBB := Aside0.mk hB
  have HNL := Aside0.mk hn
  have HSM := Aside0.mk hsum
  clear hB hsum hn
  clear h
  go_enter Try.func4, Try.ntmps4
  go_wp2_with ((go_at_call 8; refine Calls.mono (HK.out _) ?_; rintro e w2 ⟨rfl, hb⟩; replace HH := Aside0.mk ((hb.block _ (heap_lt HH.out)).trans HH.out); replace HB := Aside0.mk (below_then HB.out HB.out.size hb); have y0 := blkc HH.out 0 rfl; have y1 := blkc HH.out 1 rfl; have y2 := blkc HH.out 2 rfl;  clear hb))
  obtain ⟨wa, hwa⟩ : ∃ wa, w2 = wa := ⟨_, rfl⟩
  rw [hwa] at HH HB y0 y1 y2 ⊢
  clear hwa w2
  go_loopw [7, 8] (fun nv iv W => ∃ i : Nat, i ≤ n ∧ nv = .int .i64 (sumTo B i : Nat) ∧ iv = .int .i64 (i : Nat) ∧ Aside0 (Below wa.heap.size wa W)) (fun _ iv _ => n - (intOf iv).toNat)
  case atStart => exact ⟨0, Nat.zero_le _, by simp [sumTo], by simp, ⟨Below.refl _ _⟩⟩
  case round =>
    obtain ⟨i, hi, rfl, rfl, HBi⟩ := hrel
    by_cases hin : i < n
    · have t1 : decide ((i : Int) < (n : Int)) = true := decide_eq_true (by omega)
      have t2 : decide (i < n) = true := decide_eq_true hin
      obtain ⟨ad, B1, b1, e1, hx1, _, _⟩ := at_L1 (Kd.C_below HBB.out (below_then HB.out HB.out.size HBi.out)) (i : Int) (by omega) (by omega)
      subst e1
      rw [Int.toNat_natCast, rd_row] at hx1
      have p1 := eq_true (show (0 : Int) ≤ (i : Int) by omega)
      have p3 := eq_true (show (i : Int) < (n : Int) by omega)
      have HSU := Aside0.mk (show sumTo B (i + 1) = sumTo B i + (Gf.row B i).length from rfl)
      have hle := sumTo_le B (i + 1) (by rw [HNL.out]; omega)
      rw [HSU.out] at hle
      have hle2 := Nat.le_trans hle HSM.out
      generalize sumTo B i = ss at *
      generalize (Gf.row B i).length = ll at *
      clear hle
      go_wp2_with fail
      go_roundw
      case measure => simp [intOf]; omega
      case rel => exact ⟨i + 1, by omega, by rw [HSU.out]; go_num, by go_num, HBi⟩
    · obtain rfl : n = i := by omega
      have t1 : decide ((n : Int) < (n : Int)) = false := decide_eq_false (by omega)
      replace HB := Aside0.mk (below_then HB.out HB.out.size HBi.out)
      replace HH := Aside0.mk ((HBi.out.block _ (heap_lt HH.out)).trans HH.out)
      have y0 := blkc HH.out 0 rfl
      have y1 := blkc HH.out 1 rfl
      have y2 := blkc HH.out 2 rfl
      go_wp2_with (first | (go_at_call 9; refine Calls.mono (HS.out _) ?_; rintro e w2 ⟨rfl, hb⟩; replace HH := Aside0.mk ((hb.block _ (heap_lt HH.out)).trans HH.out); replace HB := Aside0.mk (below_then HB.out HB.out.size hb); have y0 := blkc HH.out 0 rfl; have y1 := blkc HH.out 1 rfl; have y2 := blkc HH.out 2 rfl;  clear hb) | (go_at_call 22; refine Calls.mono (HC.out _) ?_; rintro e w2 ⟨rfl, hb⟩; replace HH := Aside0.mk ((hb.block _ (heap_lt HH.out)).trans HH.out); replace HB := Aside0.mk (below_then HB.out HB.out.size hb); have y0 := blkc HH.out 0 rfl; have y1 := blkc HH.out 1 rfl; have y2 := blkc HH.out 2 rfl;  clear hb))
      go_ret
      exact ⟨rfl, HB.out⟩
set_option maxHeartbeats 16000000 in
set_option maxRecDepth 100000 in
theorem holds4_off (w : World) {k p s : Nat} (hf : Fits k p s) (seg : Int) (B : List (List Int)) (A : Option Addr) (n c : Nat) (hB : KR.C w A n B) (hn : B.length = n) (hc : n ≤ c) (hsum : (B.map fun r => r.length + 1).sum ≤ 1048576) (h : ¬ (s ≤ 600 ∧ k ≤ 12) ∨ 100 < n ∨ 20000 < sumTo B n) : Calls Try.prog 4 #[.agg #[.int .i64 k, .int .i64 p, .int .i64 s], .int .u64 seg, .slice A n c] w fun e w' => e = .returned (.bool true) ∧ Below w.heap.size w w' := by
  have HK := Aside0.mk (fun (W : World) => known8 W)
  have HC := Aside0.mk (fun (W : World) => check22 W hf)
  have HH := Aside0.mk (heap_alloc_last w (.cells #[.int .i64 k, .int .i64 p, .int .i64 s] 23))
  have HB := Aside0.mk (below_alloc (Below.refl w.heap.size w) (.cells #[.int .i64 k, .int .i64 p, .int .i64 s] 23))
  have hn9 : n ≤ 1048576 := by
    have := sumTo_sum B B.length (Nat.le_refl _)
    rw [List.take_length] at this
    omega
  have HBB := Aside0.mk hB
  have HNL := Aside0.mk hn
  have HSM := Aside0.mk hsum
  clear hB hsum hn
  by_cases h1 : s ≤ 600 ∧ k ≤ 12
  · have HS := Aside0.mk (fun (W : World) => small9_yes W hf true (by simp [h1]))
    clear hf
    by_cases h2 : 100 < n
    · have d2 : decide (100 < (n : Int)) = true := decide_eq_true (by omega)
      have d3 : decide (100 < n) = true := decide_eq_true h2
      clear h h1
      go_enter Try.func4, Try.ntmps4
      go_wp2_with ((go_at_call 8; refine Calls.mono (HK.out _) ?_; rintro e w2 ⟨rfl, hb⟩; replace HH := Aside0.mk ((hb.block _ (heap_lt HH.out)).trans HH.out); replace HB := Aside0.mk (below_then HB.out HB.out.size hb); have y0 := blkc HH.out 0 rfl; have y1 := blkc HH.out 1 rfl; have y2 := blkc HH.out 2 rfl;  clear hb))
      obtain ⟨wa, hwa⟩ : ∃ wa, w2 = wa := ⟨_, rfl⟩
      rw [hwa] at HH HB y0 y1 y2 ⊢
      clear hwa w2
      go_loopw [7, 8] (fun nv iv W => ∃ i : Nat, i ≤ n ∧ nv = .int .i64 (sumTo B i : Nat) ∧ iv = .int .i64 (i : Nat) ∧ Aside0 (Below wa.heap.size wa W)) (fun _ iv _ => n - (intOf iv).toNat)
      case atStart => exact ⟨0, Nat.zero_le _, by simp [sumTo], by simp, ⟨Below.refl _ _⟩⟩
      case round =>
        obtain ⟨i, hi, rfl, rfl, HBi⟩ := hrel
        by_cases hin : i < n
        · have t1 : decide ((i : Int) < (n : Int)) = true := decide_eq_true (by omega)
          have t2 : decide (i < n) = true := decide_eq_true hin
          obtain ⟨ad, B1, b1, e1, hx1, _, _⟩ := at_L1 (Kd.C_below HBB.out (below_then HB.out HB.out.size HBi.out)) (i : Int) (by omega) (by omega)
          subst e1
          rw [Int.toNat_natCast, rd_row] at hx1
          have p1 := eq_true (show (0 : Int) ≤ (i : Int) by omega)
          have p3 := eq_true (show (i : Int) < (n : Int) by omega)
          have HSU := Aside0.mk (show sumTo B (i + 1) = sumTo B i + (Gf.row B i).length from rfl)
          have hle := sumTo_le B (i + 1) (by rw [HNL.out]; omega)
          rw [HSU.out] at hle
          have hle2 := Nat.le_trans hle HSM.out
          generalize sumTo B i = ss at *
          generalize (Gf.row B i).length = ll at *
          clear hle
          go_wp2_with fail
          go_roundw
          case measure => simp [intOf]; omega
          case rel => exact ⟨i + 1, by omega, by rw [HSU.out]; go_num, by go_num, HBi⟩
        · obtain rfl : n = i := by omega
          have t1 : decide ((n : Int) < (n : Int)) = false := decide_eq_false (by omega)
          replace HB := Aside0.mk (below_then HB.out HB.out.size HBi.out)
          replace HH := Aside0.mk ((HBi.out.block _ (heap_lt HH.out)).trans HH.out)
          have y0 := blkc HH.out 0 rfl
          have y1 := blkc HH.out 1 rfl
          have y2 := blkc HH.out 2 rfl
          go_wp2_with (first | (go_at_call 9; refine Calls.mono (HS.out _) ?_; rintro e w2 ⟨rfl, hb⟩; replace HH := Aside0.mk ((hb.block _ (heap_lt HH.out)).trans HH.out); replace HB := Aside0.mk (below_then HB.out HB.out.size hb); have y0 := blkc HH.out 0 rfl; have y1 := blkc HH.out 1 rfl; have y2 := blkc HH.out 2 rfl;  clear hb) | (go_at_call 22; refine Calls.mono (HC.out _) ?_; rintro e w2 ⟨rfl, hb⟩; replace HH := Aside0.mk ((hb.block _ (heap_lt HH.out)).trans HH.out); replace HB := Aside0.mk (below_then HB.out HB.out.size hb); have y0 := blkc HH.out 0 rfl; have y1 := blkc HH.out 1 rfl; have y2 := blkc HH.out 2 rfl;  clear hb))
          go_ret
          exact ⟨rfl, HB.out⟩
    · have d2 : decide (100 < (n : Int)) = false := decide_eq_false (by omega)
      have h3 : 20000 < sumTo B n := by omega
      have d4 : decide (100 < n) = false := decide_eq_false h2
      clear h h1
      go_enter Try.func4, Try.ntmps4
      go_wp2_with ((go_at_call 8; refine Calls.mono (HK.out _) ?_; rintro e w2 ⟨rfl, hb⟩; replace HH := Aside0.mk ((hb.block _ (heap_lt HH.out)).trans HH.out); replace HB := Aside0.mk (below_then HB.out HB.out.size hb); have y0 := blkc HH.out 0 rfl; have y1 := blkc HH.out 1 rfl; have y2 := blkc HH.out 2 rfl;  clear hb))
      obtain ⟨wa, hwa⟩ : ∃ wa, w2 = wa := ⟨_, rfl⟩
      rw [hwa] at HH HB y0 y1 y2 ⊢
      clear hwa w2
      go_loopw [7, 8] (fun nv iv W => ∃ i : Nat, i ≤ n ∧ nv = .int .i64 (sumTo B i : Nat) ∧ iv = .int .i64 (i : Nat) ∧ Aside0 (Below wa.heap.size wa W)) (fun _ iv _ => n - (intOf iv).toNat)
      case atStart => exact ⟨0, Nat.zero_le _, by simp [sumTo], by simp, ⟨Below.refl _ _⟩⟩
      case round =>
        obtain ⟨i, hi, rfl, rfl, HBi⟩ := hrel
        by_cases hin : i < n
        · have t1 : decide ((i : Int) < (n : Int)) = true := decide_eq_true (by omega)
          have t2 : decide (i < n) = true := decide_eq_true hin
          obtain ⟨ad, B1, b1, e1, hx1, _, _⟩ := at_L1 (Kd.C_below HBB.out (below_then HB.out HB.out.size HBi.out)) (i : Int) (by omega) (by omega)
          subst e1
          rw [Int.toNat_natCast, rd_row] at hx1
          have p1 := eq_true (show (0 : Int) ≤ (i : Int) by omega)
          have p3 := eq_true (show (i : Int) < (n : Int) by omega)
          have HSU := Aside0.mk (show sumTo B (i + 1) = sumTo B i + (Gf.row B i).length from rfl)
          have hle := sumTo_le B (i + 1) (by rw [HNL.out]; omega)
          rw [HSU.out] at hle
          have hle2 := Nat.le_trans hle HSM.out
          generalize sumTo B i = ss at *
          generalize (Gf.row B i).length = ll at *
          clear hle
          go_wp2_with fail
          go_roundw
          case measure => simp [intOf]; omega
          case rel => exact ⟨i + 1, by omega, by rw [HSU.out]; go_num, by go_num, HBi⟩
        · obtain rfl : n = i := by omega
          have t1 : decide ((n : Int) < (n : Int)) = false := decide_eq_false (by omega)
          replace HB := Aside0.mk (below_then HB.out HB.out.size HBi.out)
          replace HH := Aside0.mk ((HBi.out.block _ (heap_lt HH.out)).trans HH.out)
          have y0 := blkc HH.out 0 rfl
          have y1 := blkc HH.out 1 rfl
          have y2 := blkc HH.out 2 rfl
          have d5 : decide (20000 < ((sumTo B n : Nat) : Int)) = true := decide_eq_true (by omega)
          have d6 : decide (20000 < sumTo B n) = true := decide_eq_true h3
          go_wp2_with (first | (go_at_call 9; refine Calls.mono (HS.out _) ?_; rintro e w2 ⟨rfl, hb⟩; replace HH := Aside0.mk ((hb.block _ (heap_lt HH.out)).trans HH.out); replace HB := Aside0.mk (below_then HB.out HB.out.size hb); have y0 := blkc HH.out 0 rfl; have y1 := blkc HH.out 1 rfl; have y2 := blkc HH.out 2 rfl;  clear hb) | (go_at_call 22; refine Calls.mono (HC.out _) ?_; rintro e w2 ⟨rfl, hb⟩; replace HH := Aside0.mk ((hb.block _ (heap_lt HH.out)).trans HH.out); replace HB := Aside0.mk (below_then HB.out HB.out.size hb); have y0 := blkc HH.out 0 rfl; have y1 := blkc HH.out 1 rfl; have y2 := blkc HH.out 2 rfl;  clear hb))
          go_ret
          exact ⟨rfl, HB.out⟩
  · have HS := Aside0.mk (fun (W : World) => small9_yes W hf false (by simp only [h1, decide_false]))
    clear h h1 hf
    go_enter Try.func4, Try.ntmps4
    go_wp2_with ((go_at_call 8; refine Calls.mono (HK.out _) ?_; rintro e w2 ⟨rfl, hb⟩; replace HH := Aside0.mk ((hb.block _ (heap_lt HH.out)).trans HH.out); replace HB := Aside0.mk (below_then HB.out HB.out.size hb); have y0 := blkc HH.out 0 rfl; have y1 := blkc HH.out 1 rfl; have y2 := blkc HH.out 2 rfl;  clear hb))
    obtain ⟨wa, hwa⟩ : ∃ wa, w2 = wa := ⟨_, rfl⟩
    rw [hwa] at HH HB y0 y1 y2 ⊢
    clear hwa w2
    go_loopw [7, 8] (fun nv iv W => ∃ i : Nat, i ≤ n ∧ nv = .int .i64 (sumTo B i : Nat) ∧ iv = .int .i64 (i : Nat) ∧ Aside0 (Below wa.heap.size wa W)) (fun _ iv _ => n - (intOf iv).toNat)
    case atStart => exact ⟨0, Nat.zero_le _, by simp [sumTo], by simp, ⟨Below.refl _ _⟩⟩
    case round =>
      obtain ⟨i, hi, rfl, rfl, HBi⟩ := hrel
      by_cases hin : i < n
      · have t1 : decide ((i : Int) < (n : Int)) = true := decide_eq_true (by omega)
        have t2 : decide (i < n) = true := decide_eq_true hin
        obtain ⟨ad, B1, b1, e1, hx1, _, _⟩ := at_L1 (Kd.C_below HBB.out (below_then HB.out HB.out.size HBi.out)) (i : Int) (by omega) (by omega)
        subst e1
        rw [Int.toNat_natCast, rd_row] at hx1
        have p1 := eq_true (show (0 : Int) ≤ (i : Int) by omega)
        have p3 := eq_true (show (i : Int) < (n : Int) by omega)
        have HSU := Aside0.mk (show sumTo B (i + 1) = sumTo B i + (Gf.row B i).length from rfl)
        have hle := sumTo_le B (i + 1) (by rw [HNL.out]; omega)
        rw [HSU.out] at hle
        have hle2 := Nat.le_trans hle HSM.out
        generalize sumTo B i = ss at *
        generalize (Gf.row B i).length = ll at *
        clear hle
        go_wp2_with fail
        go_roundw
        case measure => simp [intOf]; omega
        case rel => exact ⟨i + 1, by omega, by rw [HSU.out]; go_num, by go_num, HBi⟩
      · obtain rfl : n = i := by omega
        have t1 : decide ((n : Int) < (n : Int)) = false := decide_eq_false (by omega)
        replace HB := Aside0.mk (below_then HB.out HB.out.size HBi.out)
        replace HH := Aside0.mk ((HBi.out.block _ (heap_lt HH.out)).trans HH.out)
        have y0 := blkc HH.out 0 rfl
        have y1 := blkc HH.out 1 rfl
        have y2 := blkc HH.out 2 rfl
        go_wp2_with (first | (go_at_call 9; refine Calls.mono (HS.out _) ?_; rintro e w2 ⟨rfl, hb⟩; replace HH := Aside0.mk ((hb.block _ (heap_lt HH.out)).trans HH.out); replace HB := Aside0.mk (below_then HB.out HB.out.size hb); have y0 := blkc HH.out 0 rfl; have y1 := blkc HH.out 1 rfl; have y2 := blkc HH.out 2 rfl;  clear hb) | (go_at_call 22; refine Calls.mono (HC.out _) ?_; rintro e w2 ⟨rfl, hb⟩; replace HH := Aside0.mk ((hb.block _ (heap_lt HH.out)).trans HH.out); replace HB := Aside0.mk (below_then HB.out HB.out.size hb); have y0 := blkc HH.out 0 rfl; have y1 := blkc HH.out 1 rfl; have y2 := blkc HH.out 2 rfl;  clear hb))
        go_ret
        exact ⟨rfl, HB.out⟩
def holds4a.T35 : Bool × List (List Nat × List Nat) := (true, [([], []), ([], []), ([], []), ([2], [2]), ([], []), ([], []), ([], []), ([6], [6]), ([5, 7], [5, 7]), ([], []), ([9], [9]), ([], []), ([11, 7], [11]), ([10, 12], [10, 12]), ([4, 8, 13], [4, 8, 13]), ([0, 1, 3, 14, 12], [0, 1, 3, 14]), ([15], [15]), ([16], [16]), ([16], [16]), ([17, 15, 0, 1, 2, 3, 4, 5, 6, 7, 8, 9, 10, 11, 12, 13, 14, 15, 16, 17], [17]), ([18, 19, 0, 1, 2, 3, 4, 5, 6, 7, 8, 9, 10, 11, 12, 13, 14, 15, 16, 17, 18, 19], [18])])
def holds4a.B35 : List Nat := [0, 0, 0, 4, 0, 0, 0, 64, 224, 0, 512, 0, 2240, 7872, 16368, 32767, 65535, 131071, 131071, 262143, 1048575]
theorem holds4a.tab35 : rtab .any (opsOf Try.f4 35) = holds4a.T35 := by kernel_rfl
theorem holds4a.bits35 : waitsOk holds4a.T35.2 holds4a.B35 = true := by kernel_rfl
set_option maxHeartbeats 16000000 in
set_option maxRecDepth 100000 in
theorem holds4_on (w : World) {k p s : Nat} (hf : Fits k p s) (seg : Nat) (hseg : seg < 18446744073709551616) (B : List (List Int)) (A : Option Addr) (n c : Nat) (hB : KR.C w A n B) (hn : B.length = n) (hc : n ≤ c) (hsum : (B.map fun r => r.length + 1).sum ≤ 1048576) (hsm : s ≤ 600 ∧ k ≤ 12) (hn1 : n ≤ 100) (hall : sumTo B n ≤ 20000) (hby : ∀ i, bytes (Gf.row B i) = true) : Calls Try.prog 4 #[.agg #[.int .i64 k, .int .i64 p, .int .i64 s], .int .u64 seg, .slice A n c] w fun e w' => e = .returned (.bool true) ∧ Below w.heap.size w w' := by
  have HK := Aside0.mk (fun (W : World) => known8 W)
  have HC := Aside0.mk (fun (W : World) => check22 W hf)
  have HRo := Aside0.mk (fun (W : World) => row23 W hf)
  have HS := Aside0.mk (fun (W : World) => small9_yes W hf true (by simp [hsm]))
  have HNW := Aside0.mk (fun (W : World) => new11_ok W k p s seg hf)
  have HH := Aside0.mk (heap_alloc_last w (.cells #[.int .i64 k, .int .i64 p, .int .i64 s] 23))
  have HB := Aside0.mk (below_alloc (Below.refl w.heap.size w) (.cells #[.int .i64 k, .int .i64 p, .int .i64 s] 23))
  have hn9 : n ≤ 1048576 := by
    have := sumTo_sum B B.length (Nat.le_refl _)
    rw [List.take_length] at this
    omega
  have HBB := Aside0.mk hB
  have HNL := Aside0.mk hn
  have HSM := Aside0.mk hsum
  clear hB hsum hn
  have HF := Aside0.mk hf
  have HBY := Aside0.mk hby
  have hrp := room_pos hf.s1 hf.s2
  have hrow := row_lt hf
  have hNp : 0 < k * roomN s := Nat.mul_pos (by have := hf.k1; omega) (by omega)
  have hM9 : k * roomN s * (p - 1) ≤ 2097152 * 4095 := Nat.mul_le_mul hrow (by have := hf.p2; omega)
  have hN7 : k * roomN s ≤ 12 * 600 := Nat.mul_le_mul hsm.2 (by have := hsm.1; have := hf.s1; unfold roomN; rw [if_neg (by omega)]; omega)
  obtain ⟨N, hN⟩ : ∃ N, k * roomN s = N := ⟨_, rfl⟩
  have HN := Aside0.mk hN
  rw [hN] at HRo hrow hNp hM9 hN7
  have hd1 : decide (100 < (n : Int)) = false := decide_eq_false (by omega)
  have hd2 : decide (100 < n) = false := decide_eq_false (by omega)
  have hd3 : decide (20000 < ((sumTo B n : Nat) : Int)) = false := decide_eq_false (by omega)
  have hd4 : decide (20000 < sumTo B n) = false := decide_eq_false (by omega)
  have HALL := Aside0.mk hall
  clear hf hby hN hsm
  go_enter Try.func4, Try.ntmps4
  go_wp2_with ((go_at_call 8; refine Calls.mono (HK.out _) ?_; rintro e w2 ⟨rfl, hb⟩; replace HH := Aside0.mk ((hb.block _ (heap_lt HH.out)).trans HH.out); replace HB := Aside0.mk (below_then HB.out HB.out.size hb); have y0 := blkc HH.out 0 rfl; have y1 := blkc HH.out 1 rfl; have y2 := blkc HH.out 2 rfl;  clear hb))
  obtain ⟨wa, hwa⟩ : ∃ wa, w2 = wa := ⟨_, rfl⟩
  rw [hwa] at HH HB y0 y1 y2 ⊢
  clear hwa w2
  go_loopw [7, 8] (fun nv iv W => ∃ i : Nat, i ≤ n ∧ nv = .int .i64 (sumTo B i : Nat) ∧ iv = .int .i64 (i : Nat) ∧ Aside0 (Below wa.heap.size wa W)) (fun _ iv _ => n - (intOf iv).toNat)
  case atStart => exact ⟨0, Nat.zero_le _, by simp [sumTo], by simp, ⟨Below.refl _ _⟩⟩
  case round =>
    obtain ⟨i, hi, rfl, rfl, HBi⟩ := hrel
    by_cases hin : i < n
    · have t1 : decide ((i : Int) < (n : Int)) = true := decide_eq_true (by omega)
      have t2 : decide (i < n) = true := decide_eq_true hin
      obtain ⟨ad, B1, b1, e1, hx1, _, _⟩ := at_L1 (Kd.C_below HBB.out (below_then HB.out HB.out.size HBi.out)) (i : Int) (by omega) (by omega)
      subst e1
      rw [Int.toNat_natCast, rd_row] at hx1
      have p1 := eq_true (show (0 : Int) ≤ (i : Int) by omega)
      have p3 := eq_true (show (i : Int) < (n : Int) by omega)
      have HSU := Aside0.mk (show sumTo B (i + 1) = sumTo B i + (Gf.row B i).length from rfl)
      have hle := sumTo_le B (i + 1) (by rw [HNL.out]; omega)
      rw [HSU.out] at hle
      have hle2 := Nat.le_trans hle HSM.out
      generalize sumTo B i = ss at *
      generalize (Gf.row B i).length = ll at *
      clear hle
      go_wp2_with fail
      go_roundw
      case measure => simp [intOf]; omega
      case rel => exact ⟨i + 1, by omega, by rw [HSU.out]; go_num, by go_num, HBi⟩
    · obtain rfl : n = i := by omega
      have t1 : decide ((n : Int) < (n : Int)) = false := decide_eq_false (by omega)
      replace HB := Aside0.mk (below_then HB.out HB.out.size HBi.out)
      replace HH := Aside0.mk ((HBi.out.block _ (heap_lt HH.out)).trans HH.out)
      have y0 := blkc HH.out 0 rfl
      have y1 := blkc HH.out 1 rfl
      have y2 := blkc HH.out 2 rfl
      go_wp2_with (first
        | (go_at_call 9; refine Calls.mono (HS.out _) ?_; rintro e w2 ⟨rfl, hb⟩; replace HH := Aside0.mk ((hb.block _ (heap_lt HH.out)).trans HH.out); replace HB := Aside0.mk (below_then HB.out HB.out.size hb); have y0 := blkc HH.out 0 rfl; have y1 := blkc HH.out 1 rfl; have y2 := blkc HH.out 2 rfl;  clear hb)
        | (go_at_call 22; refine Calls.mono (HC.out _) ?_; rintro e w2 ⟨rfl, hb⟩; replace HH := Aside0.mk ((hb.block _ (heap_lt HH.out)).trans HH.out); replace HB := Aside0.mk (below_then HB.out HB.out.size hb); have y0 := blkc HH.out 0 rfl; have y1 := blkc HH.out 1 rfl; have y2 := blkc HH.out 2 rfl;  clear hb)
        | (go_at_call 11; refine Calls.mono (HNW.out _) ?_; rintro e w3 ⟨g, rfl, hg, hW, hb⟩; have HG := Aside0.mk (show w.heap.size ≤ g by have := HB.out.size; omega); replace HH := Aside0.mk ((hb.block _ (heap_lt HH.out)).trans HH.out); replace HB := Aside0.mk (below_then HB.out HB.out.size hb); have y0 := blkc HH.out 0 rfl; have y1 := blkc HH.out 1 rfl; have y2 := blkc HH.out 2 rfl; have HW3 := Aside0.mk hW; clear hb hW hg))
      have HST := Aside0.mk (show St w w3 g k p s seg 0 [] [] [] none 0 0 (.slice none 0 0) (.slice none 0 0) (.slice none 0 0) [] [] from ⟨HW3.out, Kd.R_nil _ _ _ _ _, Kd.R_nil _ _ _ _ _, Kd.R_nil _ _ _ _ _, Kd.R_nil _ _ _ _ _, OwnS.nil _ _ _, HB.out, HH.out⟩)
      obtain ⟨M, hM⟩ : ∃ M, N * (p - 1) = M := ⟨_, rfl⟩
      have HMM := Aside0.mk hM
      rw [hM] at hM9
      have hzd : (0 : Nat) / N = 0 := Nat.zero_div _
      have hzm : (0 : Nat) % N = 0 := Nat.zero_mod _
      clear hM HB HH HW3 HBi y0 y1 y2 t1 hd1 hd2 hd3 hd4 HNW HC HS HK
      go_loopw [11, 12, 13, 14] (fun tv av sv iv W => ∃ (i nr cr : Nat) (S ats : List Int) (Ar : Option Addr) (hds : List Hd), i ≤ n ∧ iv = .int .i64 (i : Nat) ∧ S.length ≤ sumTo B i ∧ S.length ≤ M ∧ nr = S.length % N ∧ Aside0 (ats.length = i) ∧ Aside0 (St w W g k p s seg S.length S (S.drop (S.length / N * N)) ats Ar nr cr sv tv av hds (rowsP s seg 0 k N (S.length / N) S)) ∧ Aside0 (AtOk S B ats) ∧ Aside0 (bytes S = true)) (fun _ _ _ iv _ => n - (intOf iv).toNat)
      case atStart => exact ⟨0, 0, 0, [], [], none, [], Nat.zero_le _, by simp, by simp [sumTo], by simp, by simp, ⟨rfl⟩, ⟨by simpa [hzd, rowsP] using HST.out⟩, ⟨AtOk.nil _ _⟩, ⟨rfl⟩⟩
      case round =>
        obtain ⟨i, nr, cr, S, ats, Ar, hds, hi, rfl, hSs, hSM, hnr, HAL, HT, HAO, HSB⟩ := hrel
        by_cases hin : i < n
        · have t1 : decide ((i : Int) < (n : Int)) = true := decide_eq_true (by omega)
          have t2 : decide (i < n) = true := decide_eq_true hin
          obtain ⟨ad, B1, b1, e1, hx0, hb1, hs1⟩ := at_L1 HBB.out (i : Int) (by omega) (by omega)
          subst e1
          rw [Int.toNat_natCast, rd_row] at hx0
          rw [rd_row] at hb1 hs1
          have p1 := eq_true (show (0 : Int) ≤ (i : Int) by omega)
          have p3 := eq_true (show (i : Int) < (n : Int) by omega)
          obtain ⟨bl, hbl⟩ : ∃ bl, Gf.row B i = bl := ⟨_, rfl⟩
          have HBE := Aside0.mk hbl
          have HSU := Aside0.mk (show sumTo B (i + 1) = sumTo B i + bl.length by rw [← hbl]; rfl)
          rw [hbl] at hx0 hb1 hs1
          have hx1 := pw_cell_below HT.out.below hx0
          have HX0 := Aside0.mk hx0
          clear hx0
          have hbb : bytes bl = true := by rw [← hbl]; exact HBY.out i
          clear hbl
          have hss := sumTo_mono B (show i + 1 ≤ n by omega)
          rw [HSU.out] at hss
          have hs20 : sumTo B i + bl.length ≤ 20000 := Nat.le_trans hss HALL.out
          clear hss
          have HS1 := Aside0.mk hs1
          clear hs1
          obtain ⟨As, cs, esv⟩ := Kd.R_slice HT.out.st
          subst esv
          by_cases hb0 : bl.length = 0
          · rw [hb0] at hx1
            have HA := Aside0.mk (fun (W : World) => add17_nil W g B1 b1)
            clear hb0 hb1
            go_wp2_with (first
              | (go_at_call 17; refine Calls.mono (HA.out _) ?_; rintro e w5 ⟨rfl, hb⟩; replace HT := Aside0.mk (HT.out.move hb); clear hb HA)
              | ((with_reducible refine gate_builtin (b := .append) (xs := #[.tmp 80, .tmp 81]) rfl ?_); refine Kd.R_append KI (w0 := w) w.heap.size rfl (.tmp 80) (.tmp 81) 53 3 (.int .i64 0) 8 rfl Try.underlying53 info3 rfl (by decide) (by decide) u12 ats (-1) [.int .i64 (-1)] (fun _ => True) (fun _ => False) rfl rfl rfl (fun _ hk => hk.elim) (fun _ _ => trivial) HT.out.at_ HT.out.below HT.out.below.size (by have := HAL.out; omega) ?_
                 intro v6 w6 ho hb hg hat
                 have HT6 := Aside0.mk (HT.out.atNew ho hb hg)
                 clear ho hb hg hat HT))
            go_roundw
            case measure => simp [intOf]; omega
            case rel => exact ⟨i + 1, nr, cr, S, ats ++ [-1], Ar, hds, by omega, by go_num, by rw [HSU.out]; omega, hSM, hnr, ⟨by rw [List.length_append, HAL.out]; rfl⟩, HT6, ⟨HAO.out.none (by rw [HAL.out, HNL.out]; exact hin)⟩, HSB⟩
          · by_cases hfu : M < S.length + bl.length
            · have HA := Aside0.mk (add17_full wr g k p s seg S.length _ HF.out HT.out.wr (by rw [HN.out, HMM.out]; exact hSM) B1 bl.length b1 (by omega) (by rw [HN.out, HMM.out]; exact hfu))
              clear hb0 hb1 hfu
              go_wp2_with (first
                | (go_at_call 17; refine Calls.mono HA.out ?_; rintro e w5 ⟨rfl, hb⟩; replace HT := Aside0.mk (HT.out.move hb); clear hb HA)
                | ((with_reducible refine gate_builtin (b := .append) (xs := #[.tmp 80, .tmp 81]) rfl ?_); refine Kd.R_append KI (w0 := w) w.heap.size rfl (.tmp 80) (.tmp 81) 53 3 (.int .i64 0) 8 rfl Try.underlying53 info3 rfl (by decide) (by decide) u12 ats (-1) [.int .i64 (-1)] (fun _ => True) (fun _ => False) rfl rfl rfl (fun _ hk => hk.elim) (fun _ _ => trivial) HT.out.at_ HT.out.below HT.out.below.size (by have := HAL.out; omega) ?_
                   intro v6 w6 ho hb hg hat
                   have HT6 := Aside0.mk (HT.out.atNew ho hb hg)
                   clear ho hb hg hat HT))
              go_roundw
              case measure => simp [intOf]; omega
              case rel => exact ⟨i + 1, nr, cr, S, ats ++ [-1], Ar, hds, by omega, by go_num, by rw [HSU.out]; omega, hSM, hnr, ⟨by rw [List.length_append, HAL.out]; rfl⟩, HT6, ⟨HAO.out.none (by rw [HAL.out, HNL.out]; exact hin)⟩, HSB⟩
            · have hdm := Nat.div_add_mod S.length N
              rw [Nat.mul_comm] at hdm
              have hS20 : S.length ≤ 20000 := by omega
              have hHL : hds.length ≤ 20000 := by rw [HT.out.own.len, rowsP_len]; exact Nat.le_trans (Nat.div_le_self _ _) hS20
              have HA := Aside0.mk (add17_ok w wr g k p s seg S.length (S.length / N) nr N bl.length cr b1 Ar B1 HF.out HN.out HG.out HT.out.below (S.drop (S.length / N * N)) bl (by omega) HT.out.wr (Kd.R_mono HT.out.rest (fun _ _ => trivial)) (by unfold bytes; rw [List.all_eq_true]; intro z hz; exact List.all_eq_true.1 HSB.out z (List.mem_of_mem_drop hz)) (Kd.C_below HS1.out HT.out.below) hb1 hbb hseg (by rw [hnr]; exact Nat.mod_lt _ hNp) (by omega) (by omega) (by rw [HMM.out]; omega))
              have HRA := Aside0.mk (rows_add (sz := s) (seg := seg) (k := k) (S := S) (T := bl) hNp)
              have HRE := Aside0.mk (rest_add (S := S) (T := bl) hNp)
              rw [← hnr] at HRA HRE
              have hq20 : (nr + bl.length) / N ≤ 40000 := by
                refine Nat.le_trans (Nat.div_le_self _ _) ?_
                have : nr ≤ S.length := by rw [hnr]; exact Nat.mod_le _ _
                omega
              obtain ⟨R2, hR2e⟩ : ∃ R2, (S.drop (S.length / N * N) ++ bl).drop ((nr + bl.length) / N * N) = R2 := ⟨_, rfl⟩
              obtain ⟨P2, hP2e⟩ : ∃ P2, rowsP s seg (S.length / N) k N ((nr + bl.length) / N) (S.drop (S.length / N * N) ++ bl) = P2 := ⟨_, rfl⟩
              have hP2l : P2.length ≤ 40000 := by rw [← hP2e, rowsP_len]; exact hq20
              rw [hR2e] at HA HRE
              rw [hP2e] at HA HRA
              have HFU := Aside0.mk (show S.length + bl.length ≤ M by omega)
              have HBP := Aside0.mk (show 0 < bl.length by omega)
              clear hb0 hfu hdm hq20 hR2e hP2e
              go_wp2_with (first
                | (go_at_call 17; refine Calls.mono HA.out ?_; rintro e w5 ⟨v2, A2, n2, c2, hds2, rfl, hH2, hO2, hW2, hR2, hb2⟩
                   obtain ⟨Av, cv, ev⟩ := Kd.R_slice hH2
                   subst ev
                   have HT5 := Aside0.mk (HT.out.add hW2 hR2 hb2)
                   have HO5 := Aside0.mk (OwnS.of hO2 HT.out.below.size (fun j e => ((Kd.R_bound HT.out.st).1 j e).2.2.1))
                   have HH5 := Aside0.mk (Kd.R_lower hH2 HT.out.below.size)
                   have hL2 : hds2.length ≤ 40000 := by rw [hO2.len]; exact hP2l
                   have HN2 := Aside0.mk (Kd.R_reads' hR2).1
                   clear hH2 hO2 hW2 hR2 hb2 HT HA)
                | ((with_reducible refine gate_builtin (b := .append) (xs := #[.tmp 87, .tmp 89]) rfl ?_); refine Kd.R_append KI (w0 := w) w.heap.size rfl (.tmp 87) (.tmp 89) 53 3 (.int .i64 0) 8 rfl Try.underlying53 info3 rfl (by decide) (by decide) u12 ats (S.length : Int) [.int .i64 (S.length : Int)] (fun _ => True) (fun _ => False) rfl rfl rfl (fun _ hk => hk.elim) (fun _ _ => trivial) HT5.out.at_ HT5.out.below HT5.out.below.size (by have := HAL.out; omega) ?_
                   intro v6 w6 ho hb hg hat
                   have HT6 := Aside0.mk (HT5.out.atNew ho hb hg)
                   have hx6 := pw_cell_below HT6.out.below HX0.out
                   have HO6 := Aside0.mk (HO5.out.over HT5.out.at_ (by decide) (by decide) hg)
                   have HH6 := Aside0.mk (Kd.R_over HH5.out HT5.out.at_ (by simp [KH, Kd.scalar]) hg)
                   clear ho hb hg hat HT5 HO5 HH5)
                | ((with_reducible refine gate_builtin (b := .append) (xs := #[.tmp 91, .tmp 95]) rfl ?_); refine Kd.R_append_rows (Kd.int .u8) (Rr := (Kd.int .u8).K _) (w0 := w) w.heap.size rfl (.tmp 91) (.tmp 95) 37 5 _ 1 rfl Try.underlying37 Go.Proofs.Ytjnicooboiijgaa.PSg.info5 rfl (by decide) (by decide) (.slice As S.length cs) S bl B1 bl.length b1 (fun _ => True) (fun _ => False) rfl rfl HT6.out.st (Kd.C_below HS1.out HT6.out.below) (fun _ _ h => h) (fun _ h => h.elim) (fun _ _ => trivial) HT6.out.below HT6.out.below.size (by omega) ?_
                   intro v7 w7 ho hb hg hat
                   have HT7 := Aside0.mk (HT6.out.stNew ho hb hg hat)
                   have HO7 := Aside0.mk (own_grow HT6.out hg hat HO6.out)
                   have HH7 := Aside0.mk (Kd.R_over HH6.out HT6.out.st (by simp [KH, Kd.scalar]) hg)
                   clear ho hb hg hat HT6 HO6 HH6)
                | ((with_reducible refine gate_builtin (b := .append) (xs := #[.tmp 97, .tmp 98]) rfl ?_); refine Kd.R_append_rows KH (Rr := KH.K _) (w0 := w) w.heap.size rfl (.tmp 97) (.tmp 98) 43 51 (.slice none 0 0) 24 rfl Try.underlying43 info51 rfl (by decide) (by omega) u11 hds hds2 Av hds2.length cv (fun _ => True) (fun _ => False) rfl rfl HT7.out.told (Kd.R_reads' HH7.out).2.2 (fun _ _ h => h) (fun _ h => h.elim) (fun _ _ => trivial) HT7.out.below HT7.out.below.size (by omega) ?_
                   intro v8 w8 ho hb hg hat
                   have HT8 := Aside0.mk (HT7.out.toldNew ho HO7.out hb hg)
                   clear ho hb hg hat HT7 HO7 HH7))
              go_roundw
              case measure => simp [intOf]; omega
              case rel =>
                refine ⟨i + 1, n2, c2, S ++ bl, ats ++ [(S.length : Int)], A2, hds ++ hds2, by omega, by go_num, by rw [HSU.out, List.length_append]; omega, by rw [List.length_append]; exact HFU.out, ?_, ⟨by rw [List.length_append, HAL.out]; rfl⟩, ?_, ?_, ?_⟩
                · rw [HN2.out, HRE.out]; exact rest_len
                · have h8 := HT8.out
                  rw [HRA.out, HRE.out] at h8
                  rw [List.length_append] at h8 ⊢
                  exact ⟨h8⟩
                · have h9 := HAO.out.some (by rw [HAL.out, HNL.out]; exact hin) (by rw [HAL.out, HBE.out]; exact HBP.out)
                  rw [HAL.out, HBE.out] at h9
                  exact ⟨h9⟩
                · unfold bytes at *
                  rw [List.all_append, HSB.out, hbb]
                  exact ⟨rfl⟩
        · obtain rfl : i = n := by omega
          have t1 : decide ((i : Int) < (i : Int)) = false := decide_eq_false (by omega)
          obtain ⟨As, cs, esv⟩ := Kd.R_slice HT.out.st
          subst esv
          have hS20 : S.length ≤ 20000 := Nat.le_trans hSs HALL.out
          obtain ⟨t, ht⟩ : ∃ t, (if S.length % N = 0 then S.length / N else S.length / N + 1) = t := ⟨_, rfl⟩
          have HFL := Aside0.mk (show (filled S N).length = t * N by rw [filled_len hNp, ht])
          have HTP := Aside0.mk (show t ≤ p - 1 by rw [← ht]; exact filled_room hNp (by rw [HMM.out]; exact hSM))
          go_upto_region 27 with fail
          go_cut [11] (fun tv W => ∃ (size nr cr : Nat) (R : List Int) (Ar : Option Addr) (hds : List Hd), Aside0 (St w W g k p s seg size S R ats Ar nr cr (.slice As S.length cs) tv u12 hds (rowsP s seg 0 k N t (filled S N))))
          case first =>
            have hdm := Nat.div_add_mod S.length N
            rw [Nat.mul_comm] at hdm
            have hHL : hds.length ≤ 20000 := by rw [HT.out.own.len, rowsP_len]; exact Nat.le_trans (Nat.div_le_self _ _) hS20
            by_cases hz : nr = 0
            · have HRP := Aside0.mk (show rowsP s seg 0 k N (S.length / N) S = rowsP s seg 0 k N t (filled S N) by rw [← ht, if_pos (by omega)]; unfold filled; rw [if_pos (by omega)])
              subst hz
              have HPD := Aside0.mk (pad15_no wr g k p s seg S.length cr Ar HT.out.wr)
              clear hdm ht hnr
              go_wp2_with (first
                | (go_at_call 15; refine Calls.mono HPD.out ?_; rintro e w5 ⟨rfl, hb⟩; have HT5 := Aside0.mk (HT.out.move hb); clear hb HPD HT)
                | ((with_reducible refine gate_builtin (b := .append) (xs := #[.tmp 100, .tmp 102]) rfl ?_); refine Kd.R_append_rows KH (Rr := KH.K _) (w0 := w) w.heap.size rfl (.tmp 100) (.tmp 102) 43 51 (.slice none 0 0) 24 rfl Try.underlying43 info51 rfl (by decide) (by omega) u11 hds [] none 0 0 (fun _ => True) (fun _ => False) rfl rfl HT5.out.told (Kd.C_nil _ _) (fun _ _ h => h) (fun _ h => h.elim) (fun _ _ => trivial) HT5.out.below HT5.out.below.size (by omega) ?_
                   intro v8 w8 ho hb hg hat
                   have HT8 := Aside0.mk (HT5.out.toldNew ho (OwnS.nil _ _ _) hb hg)
                   clear ho hb hg hat HT5))
              go_meet
              case rel =>
                have h8 := HT8.out
                rw [List.append_nil, List.append_nil, HRP.out] at h8
                exact ⟨_, _, _, _, _, _, ⟨h8⟩⟩
            · have hq := rows_pad (sz := s) (seg := seg) (k := k) (S := S) hNp (by omega)
              have HRP := Aside0.mk (show rowsP s seg 0 k N (S.length / N) S ++ [rowP s seg (S.length / N + 1) k N (S.drop (S.length / N * N))] = rowsP s seg 0 k N t (filled S N) by rw [← ht, if_neg (by omega)]; exact hq)
              have hqp : S.length / N + 1 < p := by
                have h1 : S.length / N * N < (p - 1) * N := by
                  have := HMM.out
                  rw [Nat.mul_comm] at this
                  rw [← hnr] at hdm
                  generalize S.length / N * N = q at *
                  generalize (p - 1) * N = pn at *
                  omega
                exact (fun q h => by omega : ∀ q, q < p - 1 → q + 1 < p) _ (Nat.lt_of_mul_lt_mul_right h1)
              have hW := HT.out.wr
              rw [show S.length = S.length / N * N + nr by rw [hnr]; exact hdm.symm] at hW
              have HPD := Aside0.mk (pad15_yes w wr g k p s seg (S.length / N) N nr cr Ar HF.out HN.out HG.out HT.out.below (S.drop (S.length / N * N)) hW (Kd.R_mono HT.out.rest (fun _ _ => trivial)) (by unfold bytes; rw [List.all_eq_true]; intro z hz; exact List.all_eq_true.1 HSB.out z (List.mem_of_mem_drop hz)) hseg (by omega) (by rw [hnr]; exact Nat.le_of_lt (Nat.mod_lt _ hNp)) hqp)
              obtain ⟨pr, hpr⟩ : ∃ pr, rowP s seg (S.length / N + 1) k N (S.drop (S.length / N * N)) = pr := ⟨_, rfl⟩
              rw [hpr] at HPD HRP
              clear hdm ht hnr hq hqp hW hpr hz
              go_wp2_with (first
                | (go_at_call 15; refine Calls.mono HPD.out ?_; rintro e w5 ⟨Av, mv, hds2, rfl, hmv, hH2, hO2, hW2, hb2⟩
                   have HT5 := Aside0.mk (HT.out.add (R' := []) hW2 (Kd.R_nil _ _ _ _ _) hb2)
                   have HO5 := Aside0.mk (OwnS.of hO2 HT.out.below.size (fun j e => ((Kd.R_bound HT.out.st).1 j e).2.2.1))
                   have HH5 := Aside0.mk hH2
                   clear hH2 hO2 hW2 hb2 HT HPD)
                | ((with_reducible refine gate_builtin (b := .append) (xs := #[.tmp 100, .tmp 102]) rfl ?_); refine Kd.R_append_rows KH (Rr := KH.K _) (w0 := w) w.heap.size rfl (.tmp 100) (.tmp 102) 43 51 (.slice none 0 0) 24 rfl Try.underlying43 info51 rfl (by decide) (by omega) u11 hds hds2 Av 1 mv (fun _ => True) (fun _ => False) rfl rfl HT5.out.told (by have := (Kd.R_reads' HH5.out); rw [← this.1] at this; exact this.2.2) (fun _ _ h => h) (fun _ h => h.elim) (fun _ _ => trivial) HT5.out.below HT5.out.below.size (by omega) ?_
                   intro v8 w8 ho hb hg hat
                   have HT8 := Aside0.mk (HT5.out.toldNew ho HO5.out hb hg)
                   clear ho hb hg hat HT5 HO5 HH5))
              go_meet
              case rel =>
                have h8 := HT8.out
                rw [HRP.out] at h8
                exact ⟨_, _, _, _, _, _, ⟨h8⟩⟩
          case rest =>
            obtain ⟨size, nr', cr', R, Ar', hds', HT'⟩ := hcut
            obtain ⟨Aa, ca, eav⟩ := Kd.R_slice HT'.out.at_
            rw [HAL.out] at eav
            subst eav
            have hpdl := lack_le (n := S.length) hNp
            obtain ⟨pd, hpd⟩ : ∃ pd, lack S.length N = pd := ⟨_, rfl⟩
            have HPD := Aside0.mk hpd
            have HFE := Aside0.mk (filled_eq S N)
            obtain ⟨F, hF⟩ : ∃ F, filled S N = F := ⟨_, rfl⟩
            rw [hF] at HT' HFL HFE
            rw [hpd] at hpdl HFE
            have HTT := HT'
            have HFB := Aside0.mk (show bytes F = true by rw [HFE.out]; unfold bytes; rw [List.all_append]; have := HSB.out; unfold bytes at this; rw [this, Bool.true_and, List.all_eq_true]; intro z hz; rw [List.eq_of_mem_replicate hz]; rfl)
            have hN0 : (N : Int) ≠ 0 := by omega
            have HAOF := Aside0.mk (show AtOk F B ats by rw [HFE.out]; exact HAO.out.app _)
            clear hpd hF ht HT' HT t1 hzd hzm hnr hin hi
            go_wp2_with fail
            go_loopw [13] (fun sv W => ∃ (j c2 : Nat) (A2 : Option Addr) (T : List Int), j ≤ pd ∧ sv = .slice A2 (S.length + j : Nat) c2 ∧ Aside0 (T = S ++ List.replicate j 0) ∧ Aside0 (T.length = S.length + j) ∧ Aside0 (St w W g k p s seg size T R ats Ar' nr' cr' sv u11 (.slice Aa i ca) hds' (rowsP s seg 0 k N t F))) (fun sv _ => S.length + pd - (match sv with | .slice _ n _ => n | _ => 0))
            case atStart => exact ⟨0, cs, As, S, Nat.zero_le _, by simp, ⟨by simp⟩, ⟨by simp⟩, HTT⟩
            case round =>
              obtain ⟨j, c2, A2, T, hj, rfl, HTE, HTL, HT⟩ := hrel
              have y0 := blkc HT.out.shape 0 rfl
              have y1 := blkc HT.out.shape 1 rfl
              have y2 := blkc HT.out.shape 2 rfl
              by_cases hjp : j < pd
              · have hne := lack_mod (n := S.length) hNp (by rw [HPD.out]; exact hjp)
                obtain ⟨L, hL⟩ : ∃ L, S.length + j = L := ⟨_, rfl⟩
                rw [hL] at hne
                have HLL := Aside0.mk hL
                have hL9 : L ≤ 40000 := by omega
                rw [hL] at HT HTL ⊢
                obtain ⟨mm, hmm⟩ : ∃ mm, L % N = mm := ⟨_, rfl⟩
                have hrem : Int.tmod (L : Int) (N : Int) = (mm : Int) := by rw [← hmm]; rfl
                rw [hmm] at hne
                have e1 : ((mm : Int) == 0) = false := beq_eq_false_iff_ne.mpr (by omega)
                have e2 : ((mm : Int) != 0) = true := bne_iff_ne.mpr (by omega)
                have e3 : (mm == 0) = false := beq_eq_false_iff_ne.mpr hne
                clear hmm hL
                go_wp2_with (first
                  | (go_at_call 23; refine Calls.mono (HRo.out _) ?_; rintro e w5 ⟨rfl, hb⟩; have HT5 := Aside0.mk (HT.out.move hb); clear hb HT)
                  | ((with_reducible refine gate_builtin (b := .append) (xs := #[.tmp 110, .tmp 111]) rfl ?_); refine Kd.R_append (Kd.int .u8) (w0 := w) w.heap.size rfl (.tmp 110) (.tmp 111) 37 5 (.int .u8 0) 1 rfl Try.underlying37 Go.Proofs.Ytjnicooboiijgaa.PSg.info5 rfl (by decide) (by decide) (.slice A2 L c2) T 0 [.int .u8 0] (fun _ => True) (fun _ => False) rfl rfl rfl (fun _ hk => hk.elim) (fun _ _ => trivial) HT5.out.st HT5.out.below HT5.out.below.size (by rw [HTL.out]; omega) ?_
                     intro v6 w6 ho hb hg hat
                     have HT6 := Aside0.mk (HT5.out.stNew ho hb hg hat)
                     obtain ⟨A6, c6, ev6⟩ := Kd.R_slice ho
                     rw [List.length_append, HTL.out, List.length_singleton] at ev6
                     subst ev6
                     clear ho hb hg hat HT5))
                go_roundw
                case measure => rw [← HLL.out]; simp; omega
                case rel => exact ⟨j + 1, c6, A6, T ++ [0], by omega, by rw [← HLL.out]; rfl, ⟨by rw [HTE.out, List.append_assoc, ← List.replicate_succ']⟩, ⟨by rw [List.length_append, HTL.out, ← HLL.out]; rfl⟩, HT6⟩
              · obtain rfl : j = pd := by omega
                obtain rfl : T = F := HTE.out.trans HFE.out.symm
                obtain ⟨L, hL⟩ : ∃ L, S.length + j = L := ⟨_, rfl⟩
                have hL0 : L % N = 0 := by rw [← hL, ← HPD.out]; exact lack_full hNp
                have hL9 : L ≤ 40000 := by omega
                rw [hL] at HT HTL ⊢
                have hLt : L = t * N := by rw [← HTL.out]; exact HFL.out
                have hrem : Int.tmod (L : Int) (N : Int) = 0 := by
                  have : Int.tmod (L : Int) (N : Int) = ((L % N : Nat) : Int) := rfl
                  rw [this, hL0]; rfl
                have hml : (t : Int) * (N : Int) = (L : Int) := by rw [hLt]; push_cast; rfl
                have hhl : hds'.length = t := by rw [HT.out.own.len, rowsP_len]
                obtain ⟨At, ct, eu11⟩ := Kd.R_slice HT.out.told
                rw [hhl] at eu11
                subst eu11
                have HLT := Aside0.mk hLt
                have HLM := Aside0.mk (show ∀ i3, i3 < t → (i3 + 1) * N ≤ M from fun i3 h3 => Nat.le_trans (Nat.mul_le_mul_right N h3) (by rw [← HMM.out, Nat.mul_comm]; exact Nat.mul_le_mul_left N HTP.out))
                have HHL := Aside0.mk hhl
                have ht9 : t ≤ 40000 := Nat.le_trans (Nat.le_mul_of_pos_right t hNp) (by omega)
                clear hL hL0 hLt hhl
                go_wp2_with (first
                  | (go_at_call 23; refine Calls.mono (HRo.out _) ?_; rintro e w5 ⟨rfl, hb⟩; replace HT := Aside0.mk (HT.out.move hb); have y0 := blkc HT.out.shape 0 rfl; have y1 := blkc HT.out.shape 1 rfl; have y2 := blkc HT.out.shape 2 rfl; clear hb))
                obtain ⟨wf, hwf⟩ : ∃ wf, wr = wf := ⟨_, rfl⟩
                obtain ⟨we, hwe⟩ : ∃ we, w5 = we := ⟨_, rfl⟩
                rw [hwe] at HT y0 y1 y2 ⊢
                clear hwe hwf
                go_loopw [18] (fun iv W => ∃ (i3 : Nat), i3 ≤ t ∧ iv = .int .i64 (i3 : Nat) ∧ Aside0 (Below we.heap.size we W)) (fun iv _ => t - (intOf iv).toNat)
                case atStart => exact ⟨0, Nat.zero_le _, by simp, ⟨Below.refl _ _⟩⟩
                case round =>
                  obtain ⟨i3, hi3, rfl, HB3⟩ := hrel
                  by_cases h3 : i3 < t
                  · have t1 : decide ((i3 : Int) < (t : Int)) = true := decide_eq_true (by omega)
                    have t2 : decide (i3 < t) = true := decide_eq_true h3
                    have HT3 := Aside0.mk (HT.out.move HB3.out)
                    have x0 := blkc HT3.out.shape 0 rfl
                    have x1 := blkc HT3.out.shape 1 rfl
                    have x2 := blkc HT3.out.shape 2 rfl
                    have hio : (i3 + 1) * N ≤ L := by rw [HLT.out]; exact Nat.mul_le_mul_right N h3
                    have hL1 : N ≤ L := by rw [HLT.out]; exact Nat.le_mul_of_pos_left N (by omega)
                    have HIS := Aside0.mk (show (i3 + 1) * N = i3 * N + N from Nat.succ_mul _ _)
                    obtain ⟨bs, cap, evs, hbs, _⟩ := Kd.R_form HT3.out.st (by rw [HTL.out]; omega)
                    obtain ⟨rfl, rfl⟩ : A2 = some ⟨bs, 0, none⟩ ∧ c2 = cap := by
                      rw [HTL.out] at evs
                      simpa using evs
                    have hLc := (Kd.R_reads' (n := L) HT3.out.st).2.1
                    have hCT := (Kd.R_reads' (n := L) HT3.out.st).2.2
                    have hC2 := Kd.C_drop (c := c2) (m := i3 * N) hCT (by rw [HTL.out]; have := HIS.out; omega) (by rw [HTL.out]; exact hLc)
                    have hC3 := Kd.C_take (m := N) hC2 (by rw [List.length_drop, HTL.out]; have := HIS.out; omega)
                    rw [List.length_take, List.length_drop, HTL.out, Nat.min_eq_left (by have := HIS.out; omega), if_neg (by have := HIS.out; omega)] at hC3
                    have hC4 : KB.C wr (some ⟨bs, i3 * N, none⟩) N (chunk T N i3) := by
                      have h := hC3
                      rw [show (Option.map (fun x : Addr => x.add (i3 * N * KB.sz)) (some ⟨bs, 0, none⟩)) = some ⟨bs, i3 * N, none⟩ by
                        show some ((⟨bs, 0, none⟩ : Addr).add (i3 * N * 1)) = _
                        rw [Nat.mul_one, Addr.add_mid, Nat.zero_add]] at h
                      exact h
                    have hip : i3 + 1 < p := by
                      have h1 : (i3 + 1) * N ≤ (p - 1) * N := by
                        have := HMM.out
                        rw [Nat.mul_comm] at this
                        rw [this]
                        exact HLM.out i3 h3
                      have := Nat.le_of_mul_le_mul_right h1 hNp
                      have := HF.out.p1
                      omega
                    have hcb : bytes (chunk T N i3) = true := chunk_bytes HFB.out N i3
                    have H24 := Aside0.mk (fun (W : World) (hW : Below wr.heap.size wr W) => (by
                      have h := pages24_C W HF.out seg (i3 + 1) (some ⟨bs, i3 * N, none⟩) N (c2 - i3 * N) (chunk T N i3) (Kd.C_below hC4 hW) hcb hseg (by omega) hip (by rw [HN.out]; exact Nat.le_refl _)
                      rw [show ((i3 + 1 : Nat) : Int) = (i3 : Int) + 1 by push_cast; rfl, HN.out] at h
                      exact h : Calls Try.prog 24 #[.agg #[.int .i64 k, .int .i64 p, .int .i64 s], .int .u64 seg, .int .i64 ((i3 : Int) + 1), .slice (some ⟨bs, i3 * N, none⟩) N (c2 - i3 * N)] W fun e w' => ∃ A' c', e = .returned (.tuple #[.slice A' (k + 2) c', .int .i64 0]) ∧ KR.C w' A' (k + 2) (rowP s seg (i3 + 1) k N (chunk T N i3)) ∧ k + 2 ≤ c' ∧ Below W.heap.size W w'))
                    have hio2 : i3 * N + N ≤ L := by have := HIS.out; omega
                    have hm1 : (i3 : Int) * (N : Int) = ((i3 * N : Nat) : Int) := by push_cast; rfl
                    have hm2 : ((i3 : Int) + 1) * (N : Int) = ((i3 * N : Nat) : Int) + (N : Int) := by push_cast; rw [Int.add_mul, Int.one_mul]
                    obtain ⟨o, ho⟩ : ∃ o, i3 * N = o := ⟨_, rfl⟩
                    have HOO := Aside0.mk ho
                    rw [ho] at H24 hio2 hm1 hm2
                    have q1 : (0 : Int) ≤ (o : Int) := by omega
                    have q2 : (o : Int) ≤ (o : Int) + (N : Int) := by omega
                    have q3 : (o : Int) + (N : Int) ≤ (c2 : Int) := by omega
                    have q4 : (o : Int) ≤ (c2 : Int) := by omega
                    have q5 : (0 : Int) ≤ (o : Int) + (N : Int) := by omega
                    clear hCT hC2 hC3 hC4 hcb hip ho y0 y1 y2 evs hbs hio
                    go_upto_region 35 with fail
                    have w1 := wr1 (show i3 ≤ 40000 from Nat.le_trans hi3 ht9)
                    have w2 := wr2 HOO.out (Nat.le_trans (Nat.le_trans (Nat.le_add_right _ _) hio2) (Nat.le_trans hL9 (by decide)))
                    have w3 := wr3 HOO.out (Nat.le_trans hio2 (Nat.le_trans hL9 (by decide)))
                    have qc : ¬ c2 = o := by clear w1 w2 w3; omega
                    have qd : ((o : Int) + (N : Int)).toNat - o = N := by clear w1 w2 w3; omega
                    clear hm1 hm2
                    refine start_ (n := 21) (S := fun w' => w'.cell? ⟨w.heap.size, 0, none⟩ = some (.int .i64 (k : Nat)) ∧ w'.cell? ⟨w.heap.size, 1, none⟩ = some (.int .i64 (p : Nat)) ∧ w'.cell? ⟨w.heap.size, 2, none⟩ = some (.int .i64 (s : Nat))) (ds := []) #[false, false, false, false, false, false, false, false, false, false, false, false, false, false, false, false, false, false, false, false, false] (by kernel_rfl) rfl rfl ⟨x0, x1, x2⟩ (fun hHeld => ?_)
                    refine with_tabW holds4a.tab35 holds4a.bits35 (fun HT_ HW_ => ?_)
                    refine pure_ (i := 1) (N := some 129) (v := ?_) (a' := ?_) #[false, true, false, false, false, false, false, false, false, false, false, false, false, false, false, false, false, false, false, false, false] rfl rfl (any_of HT_.out (by kernel_rfl)) (fun _ _ _ h => h) (Or.inl ⟨by rfl, ?_⟩) ?_ ?_
                    rotate_left
                    · intro w'
                      go_simp
                      with_reducible rfl
                    rotate_left
                    · simp only [Act.put, List.setIfInBounds_toArray, List.set_cons_zero, List.set_cons_succ, i64_w, i32_w]
                      rfl
                    refine pure_ (i := 2) (N := some 130) (v := ?_) (a' := ?_) #[false, true, true, false, false, false, false, false, false, false, false, false, false, false, false, false, false, false, false, false, false] rfl rfl (any_of HT_.out (by kernel_rfl)) (fun _ _ _ h => h) (Or.inl ⟨by rfl, ?_⟩) ?_ ?_
                    rotate_left
                    · intro w'
                      go_simp
                      with_reducible rfl
                    rotate_left
                    · simp only [Act.put, List.setIfInBounds_toArray, List.set_cons_zero, List.set_cons_succ, i64_w, i32_w]
                      rfl
                    refine pure_ (i := 3) (N := some 131) (v := ?_) (a' := ?_) #[false, true, true, true, false, false, false, false, false, false, false, false, false, false, false, false, false, false, false, false, false] rfl rfl (any_of HT_.out (by kernel_rfl)) (fun _ _ _ h => h) (Or.inl ⟨by rfl, ?_⟩) ?_ ?_
                    rotate_left
                    · intro w'
                      go_simp
                      with_reducible rfl
                    rotate_left
                    · simp only [Act.put, List.setIfInBounds_toArray, List.set_cons_zero, List.set_cons_succ, i64_w, i32_w]
                      rfl
                    refine pure_ (i := 4) (N := some 132) (v := ?_) (a' := ?_) #[false, true, true, true, true, false, false, false, false, false, false, false, false, false, false, false, false, false, false, false, false] rfl rfl (any_of HT_.out (by kernel_rfl)) (fun _ _ _ h => h) (Or.inl ⟨by rfl, ?_⟩) ?_ ?_
                    rotate_left
                    · intro w'
                      go_simp
                      with_reducible rfl
                    rotate_left
                    · simp only [Act.put, List.setIfInBounds_toArray, List.set_cons_zero, List.set_cons_succ, i64_w, i32_w]
                      rfl
                    refine pure_ (i := 5) (N := some 133) (v := ?_) (a' := ?_) #[false, true, true, true, true, true, false, false, false, false, false, false, false, false, false, false, false, false, false, false, false] rfl rfl (any_of HT_.out (by kernel_rfl)) (fun _ _ _ h => h) (Or.inl ⟨by rfl, ?_⟩) ?_ ?_
                    rotate_left
                    · intro w'
                      go_simp
                      with_reducible rfl
                    rotate_left
                    · simp only [Act.put, List.setIfInBounds_toArray, List.set_cons_zero, List.set_cons_succ, i64_w, i32_w]
                      rfl
                    refine pure_ (i := 9) (N := some 137) (v := ?_) (a' := ?_) #[false, true, true, true, true, true, false, false, false, true, false, false, false, false, false, false, false, false, false, false, false] rfl rfl (any_of HT_.out (by kernel_rfl)) (fun _ _ _ h => h) (Or.inl ⟨by rfl, ?_⟩) ?_ ?_
                    rotate_left
                    · intro w'
                      go_simp
                      with_reducible rfl
                    rotate_left
                    · simp only [Act.put, List.setIfInBounds_toArray, List.set_cons_zero, List.set_cons_succ, i64_w, i32_w]
                      rfl
                    refine pure_ (i := 10) (N := some 138) (v := ?_) (a' := ?_) #[false, true, true, true, true, true, false, false, false, true, true, false, false, false, false, false, false, false, false, false, false] rfl rfl (any_of HT_.out (by kernel_rfl)) (fun _ _ _ h => h) (Or.inl ⟨by rfl, ?_⟩) ?_ ?_
                    rotate_left
                    · intro w'
                      go_simp
                      with_reducible rfl
                    rotate_left
                    · simp only [Act.put, List.setIfInBounds_toArray, List.set_cons_zero, List.set_cons_succ, i64_w, i32_w]
                      rfl
                    refine take_ (i := 0) (N := some 128) (v := ?_) (a' := ?_) #[true, true, true, true, true, true, false, false, false, true, true, false, false, false, false, false, false, false, false, false, false] rfl rfl (take_ofW HT_.out HW_.out (by kernel_rfl)) (fun _ _ _ h => h) (Or.inl ⟨by rfl, ?_⟩) hHeld ?_ ?_
                    rotate_left
                    · rintro w' ⟨s0, s1, s2⟩
                      go_simp
                      with_reducible rfl
                    rotate_left
                    · simp only [Act.put, List.setIfInBounds_toArray, List.set_cons_zero, List.set_cons_succ, i64_w, i32_w]
                      rfl
                    refine take_ (i := 6) (N := some 134) (v := ?_) (a' := ?_) #[true, true, true, true, true, true, true, false, false, true, true, false, false, false, false, false, false, false, false, false, false] rfl rfl (take_ofW HT_.out HW_.out (by kernel_rfl)) (fun _ _ _ h => h) (Or.inl ⟨by rfl, ?_⟩) hHeld ?_ ?_
                    rotate_left
                    · rintro w' ⟨s0, s1, s2⟩
                      go_simp
                      with_reducible rfl
                    rotate_left
                    · simp only [Act.put, List.setIfInBounds_toArray, List.set_cons_zero, List.set_cons_succ, i64_w, i32_w]
                      rfl
                    refine take_ (i := 11) (N := some 139) (v := ?_) (a' := ?_) #[true, true, true, true, true, true, true, false, false, true, true, true, false, false, false, false, false, false, false, false, false] rfl rfl (take_ofW HT_.out HW_.out (by kernel_rfl)) (fun _ _ _ h => h) (Or.inl ⟨by rfl, ?_⟩) hHeld ?_ ?_
                    rotate_left
                    · rintro w' ⟨s0, s1, s2⟩
                      go_simp
                      with_reducible rfl
                    rotate_left
                    · simp only [Act.put, List.setIfInBounds_toArray, List.set_cons_zero, List.set_cons_succ, i64_w, i32_w]
                      rfl
                    refine one_ (i := 7) (N := some 135) #[true, true, true, true, true, true, true, true, false, true, true, true, false, false, false, false, false, false, false, false, false] rfl rfl (one_of HT_.out (by kernel_rfl)) (by decide) (fun K hK => ?_)
                    refine goes_ Try.func23 (by kernel_rfl) rfl #[.agg #[.int .i64 (k : Nat), .int .i64 (p : Nat), .int .i64 (s : Nat)]] (by rfl) rfl rfl (by simp only [List.map_toArray, List.map_cons, List.map_nil]; rfl) ?_
                    refine Calls.mono (HRo.out _) ?_
                    rintro e w6 ⟨rfl, hb6⟩
                    refine ⟨_, rfl, ?_⟩
                    have hd0 := below_drew (Below.refl wr.heap.size wr)
                    have HB6 := Aside0.mk (below_then hd0 hd0.size hb6)
                    clear hd0
                    refine hK.out _ _ ⟨pw_cell_below hb6 hHeld.1, pw_cell_below hb6 hHeld.2.1, pw_cell_below hb6 hHeld.2.2⟩ (fun hHeld => ?_)
                    clear hK K
                    refine norm_ (a' := ?_) ?_ ?_
                    rotate_left
                    · show Act.put _ (some 135) _ = _
                      simp only [Act.put, List.setIfInBounds_toArray, List.set_cons_zero, List.set_cons_succ, i64_w, i32_w]
                      rfl
                    refine pure_ (i := 8) (N := some 136) (v := ?_) (a' := ?_) #[true, true, true, true, true, true, true, true, true, true, true, true, false, false, false, false, false, false, false, false, false] rfl rfl (any_of HT_.out (by kernel_rfl)) (fun _ _ _ h => h) (Or.inl ⟨by rfl, ?_⟩) ?_ ?_
                    rotate_left
                    · intro w'
                      go_simp
                      with_reducible rfl
                    rotate_left
                    · simp only [Act.put, List.setIfInBounds_toArray, List.set_cons_zero, List.set_cons_succ, i64_w, i32_w]
                      rfl
                    refine one_ (i := 12) (N := some 140) #[true, true, true, true, true, true, true, true, true, true, true, true, true, false, false, false, false, false, false, false, false] rfl rfl (one_of HT_.out (by kernel_rfl)) (by decide) (fun K hK => ?_)
                    refine goes_ Try.func23 (by kernel_rfl) rfl #[.agg #[.int .i64 (k : Nat), .int .i64 (p : Nat), .int .i64 (s : Nat)]] (by rfl) rfl rfl (by simp only [List.map_toArray, List.map_cons, List.map_nil]; rfl) ?_
                    refine Calls.mono (HRo.out _) ?_
                    rintro e w7 ⟨rfl, hb7⟩
                    refine ⟨_, rfl, ?_⟩
                    have HB7 := Aside0.mk (below_then HB6.out HB6.out.size hb7)
                    refine hK.out _ _ ⟨pw_cell_below hb7 hHeld.1, pw_cell_below hb7 hHeld.2.1, pw_cell_below hb7 hHeld.2.2⟩ (fun hHeld => ?_)
                    clear hK K
                    refine norm_ (a' := ?_) ?_ ?_
                    rotate_left
                    · show Act.put _ (some 140) _ = _
                      simp only [Act.put, List.setIfInBounds_toArray, List.set_cons_zero, List.set_cons_succ, i64_w, i32_w]
                      rfl
                    refine pure_ (i := 13) (N := some 141) (v := ?_) (a' := ?_) #[true, true, true, true, true, true, true, true, true, true, true, true, true, true, false, false, false, false, false, false, false] rfl rfl (any_of HT_.out (by kernel_rfl)) (fun _ _ _ h => h) (Or.inl ⟨by rfl, ?_⟩) ?_ ?_
                    rotate_left
                    · intro w'
                      go_simp
                      with_reducible rfl
                    rotate_left
                    · simp only [Act.put, List.setIfInBounds_toArray, List.set_cons_zero, List.set_cons_succ, i64_w, i32_w]
                      rfl
                    refine pure_ (i := 14) (N := some 142) (v := ?_) (a' := ?_) #[true, true, true, true, true, true, true, true, true, true, true, true, true, true, true, false, false, false, false, false, false] rfl rfl (any_of HT_.out (by kernel_rfl)) (fun _ _ _ h => h) (Or.inl ⟨by rfl, ?_⟩) ?_ ?_
                    rotate_left
                    · intro w'
                      go_simp
                      with_reducible rfl
                    rotate_left
                    · simp only [Act.put, List.setIfInBounds_toArray, List.set_cons_zero, List.set_cons_succ, i64_w, i32_w]
                      rfl
                    refine one_ (i := 15) (N := some 143) #[true, true, true, true, true, true, true, true, true, true, true, true, true, true, true, true, false, false, false, false, false] rfl rfl (one_of HT_.out (by kernel_rfl)) (by decide) (fun K hK => ?_)
                    refine goes_ Try.func24 (by kernel_rfl) rfl #[.agg #[.int .i64 (k : Nat), .int .i64 (p : Nat), .int .i64 (s : Nat)], .int .u64 (seg : Nat), .int .i64 (wrap64 ((i3 : Int) + 1)), .slice (some ⟨bs, o, none⟩) N (c2 - o)] (by rfl) rfl rfl (by simp only [List.map_toArray, List.map_cons, List.map_nil]; rfl) ?_
                    refine Calls.mono ((by rw [w1]; exact H24.out w7 HB7.out)) ?_
                    rintro e w8 ⟨A8, c8, rfl, hX8, hl8, hb8⟩
                    refine ⟨_, rfl, ?_⟩
                    refine hK.out _ _ ⟨pw_cell_below hb8 hHeld.1, pw_cell_below hb8 hHeld.2.1, pw_cell_below hb8 hHeld.2.2⟩ (fun hHeld => ?_)
                    clear hK K
                    refine norm_ (a' := ?_) ?_ ?_
                    rotate_left
                    · show Act.put _ (some 143) _ = _
                      simp only [Act.put, List.setIfInBounds_toArray, List.set_cons_zero, List.set_cons_succ, i64_w, i32_w]
                      rfl
                    refine pure_ (i := 16) (N := some 127) (v := ?_) (a' := ?_) #[true, true, true, true, true, true, true, true, true, true, true, true, true, true, true, true, true, false, false, false, false] rfl rfl (any_of HT_.out (by kernel_rfl)) (fun _ _ _ h => h) (Or.inl ⟨by rfl, ?_⟩) ?_ ?_
                    rotate_left
                    · intro w'
                      go_simp
                      with_reducible rfl
                    rotate_left
                    · simp only [Act.put, List.setIfInBounds_toArray, List.set_cons_zero, List.set_cons_succ, i64_w, i32_w]
                      rfl
                    refine pure_ (i := 17) (N := some 144) (v := ?_) (a' := ?_) #[true, true, true, true, true, true, true, true, true, true, true, true, true, true, true, true, true, true, false, false, false] rfl rfl (any_of HT_.out (by kernel_rfl)) (fun _ _ _ h => h) (Or.inl ⟨by rfl, ?_⟩) ?_ ?_
                    rotate_left
                    · intro w'
                      go_simp
                      with_reducible rfl
                    rotate_left
                    · simp only [Act.put, List.setIfInBounds_toArray, List.set_cons_zero, List.set_cons_succ, i64_w, i32_w]
                      rfl
                    refine pure_ (i := 18) (N := some 145) (v := ?_) (a' := ?_) #[true, true, true, true, true, true, true, true, true, true, true, true, true, true, true, true, true, true, true, false, false] rfl rfl (any_of HT_.out (by kernel_rfl)) (fun _ _ _ h => h) (Or.inl ⟨by rfl, ?_⟩) ?_ ?_
                    rotate_left
                    · intro w'
                      go_simp
                      with_reducible rfl
                    rotate_left
                    · simp only [Act.put, List.setIfInBounds_toArray, List.set_cons_zero, List.set_cons_succ, i64_w, i32_w]
                      rfl
                    refine pure_ (i := 19) (N := some 19) (v := ?_) (a' := ?_) #[true, true, true, true, true, true, true, true, true, true, true, true, true, true, true, true, true, true, true, true, false] rfl rfl (any_of HT_.out (by kernel_rfl)) (fun _ _ _ h => h) (Or.inl ⟨by rfl, ?_⟩) ?_ ?_
                    rotate_left
                    · intro w'
                      go_simp
                      with_reducible rfl
                    rotate_left
                    · simp only [Act.put, List.setIfInBounds_toArray, List.set_cons_zero, List.set_cons_succ, i64_w, i32_w]
                      rfl
                    refine pure_ (i := 20) (N := some 20) (v := ?_) (a' := ?_) #[true, true, true, true, true, true, true, true, true, true, true, true, true, true, true, true, true, true, true, true, true] rfl rfl (any_of HT_.out (by kernel_rfl)) (fun _ _ _ h => h) (Or.inl ⟨by rfl, ?_⟩) ?_ ?_
                    rotate_left
                    · intro w'
                      go_simp
                      with_reducible rfl
                    rotate_left
                    · simp only [Act.put, List.setIfInBounds_toArray, List.set_cons_zero, List.set_cons_succ, i64_w, i32_w]
                      rfl
                    refine done_ (done_of HT_.out (by kernel_rfl)) ?_
                    clear w1 w2 w3 qc qd q1 q2 q3 q4 q5 x0 x1 x2 hHeld H24
                    have hd8 := below_then HB7.out HB7.out.size hb8
                    have HT8 := Aside0.mk (HT3.out.move hd8)
                    have HB8 := Aside0.mk (below_then HB3.out HB3.out.size hd8)
                    have HX8 := Aside0.mk hX8
                    obtain ⟨bt, capt, evt, _, _⟩ := Kd.R_form HT8.out.told (by rw [HHL.out]; omega)
                    obtain ⟨rfl, rfl⟩ : At = some ⟨bt, 0, none⟩ ∧ ct = capt := by
                      rw [HHL.out] at evt
                      simpa using evt
                    obtain ⟨⟨xa, xn, xc⟩, hx⟩ : ∃ x, hds'[i3]? = some x := ⟨hds'[i3]'(by rw [HHL.out]; exact h3), List.getElem?_eq_getElem _⟩
                    have hxc := KH_atA (Kd.R_reads' (n := t) HT8.out.told).2.2 (by rw [HHL.out]; exact h3) hx
                    rw [Addr.add_mid, Nat.zero_add] at hxc
                    have hrw := HT8.out.own.row hx
                    rw [rowsP_row h3, show 0 + 1 + i3 = i3 + 1 by omega] at hrw
                    have HPG := Aside0.mk (pages25 w8 (rowP s seg (i3 + 1) k N (chunk T N i3)) (by rw [rowP_len]; have := HF.out.k2; omega) xa A8 xn (k + 2) xc c8 hrw.2.2 (by rw [← hrw.1]; exact hrw.2.1) hrw.1 (by rw [rowP_len]; exact HX8.out) (by rw [rowP_len]; exact hl8) rowP_len.symm)
                    clear hd8 hb8 hX8 hrw hx evt HT3 HB6 HB7
                    have p1 : (0 : Int) ≤ (i3 : Int) := by omega
                    go_wp2_with (go_at_call 25; refine Calls.mono HPG.out ?_; rintro e w9 ⟨rfl, hb⟩; have HB9 := Aside0.mk (below_then HB8.out HB8.out.size hb); clear hb HPG)
                    go_roundw
                    case measure => simp [intOf]; omega
                    case rel => exact ⟨i3 + 1, by omega, by go_num, HB9⟩
                  · obtain rfl : i3 = t := by omega
                    have t1 : decide ((i3 : Int) < (i3 : Int)) = false := decide_eq_false (by omega)
                    clear y0 y1 y2
                    go_wp2_with fail
                    go_loopw [21] (fun iv W => ∃ (i4 : Nat), i4 ≤ i ∧ iv = .int .i64 (i4 : Nat) ∧ Aside0 (Below we.heap.size we W)) (fun iv _ => i - (intOf iv).toNat)
                    case atStart => exact ⟨0, Nat.zero_le _, by simp, HB3⟩
                    case round =>
                      obtain ⟨i4, hi4, rfl, HB4⟩ := hrel
                      by_cases h4 : i4 < i
                      · have t4 : decide ((i4 : Int) < (i : Int)) = true := decide_eq_true (by omega)
                        have t5 : decide (i4 < i) = true := decide_eq_true h4
                        have HT4 := Aside0.mk (HT.out.move HB4.out)
                        obtain ⟨ba, cap, eva, _, _⟩ := Kd.R_form HT4.out.at_ (by rw [HAL.out]; omega)
                        obtain ⟨rfl, rfl⟩ : Aa = some ⟨ba, 0, none⟩ ∧ ca = cap := by
                          rw [HAL.out] at eva
                          simpa using eva
                        have hCa := (Kd.R_reads' (n := i) HT4.out.at_).2.2
                        rw [HAL.out] at hCa
                        have hca := KI_cell hCa h4
                        have p1 : (0 : Int) ≤ (i4 : Int) := by omega
                        have p2 := eq_true (show (i4 : Int) < (i : Int) by omega)
                        have hat := HAOF.out.at_ i4 (by rw [HAL.out]; exact h4)
                        clear eva hCa
                        rcases hat with hneg | ⟨a, hav, hl0, hal, hsl⟩
                        · rw [hneg] at hca
                          clear hneg
                          go_wp2
                          repeat (go_quiet (fail); try go_wp2)
                          go_roundw
                          case measure => simp [intOf]; omega
                          case rel => exact ⟨i4 + 1, by omega, by go_num, ⟨pw_below_drewN HB4.out _⟩⟩
                        · rw [hav] at hca
                          rw [HTL.out] at hal
                          obtain ⟨bs, cap, evs, _, _⟩ := Kd.R_form HT4.out.st (by rw [HTL.out]; omega)
                          obtain ⟨rfl, rfl⟩ : A2 = some ⟨bs, 0, none⟩ ∧ c2 = cap := by
                            rw [HTL.out] at evs
                            simpa using evs
                          have hLc := (Kd.R_reads' (n := L) HT4.out.st).2.1
                          have hCT := (Kd.R_reads' (n := L) HT4.out.st).2.2
                          rw [HTL.out] at hCT
                          have hP := part_C (c := c2) hCT hl0 hal hLc hsl
                          obtain ⟨ad, B1, b1, e1, hx0, _, hs1⟩ := at_L1 HBB.out (i4 : Int) (by omega) (by omega)
                          subst e1
                          rw [Int.toNat_natCast, rd_row] at hx0
                          rw [rd_row] at hs1
                          have hx1 := pw_cell_below HT4.out.below hx0
                          have HSb := Aside0.mk (Kd.C_below hs1 HT4.out.below)
                          have HSt := Aside0.mk hP
                          obtain ⟨bl, hbl⟩ : ∃ bl, Gf.row B i4 = bl := ⟨_, rfl⟩
                          rw [hbl] at hl0 hal hx1 HSb HSt
                          have cv1 := Kd.C_string (P := Try.prog) (A := B1) (c := b1) Try.underlying37 Try.underlying5 Try.underlying9 HSb.out
                          have cq1 := fun n_ : Nat => Kd.C_string (P := Try.prog) (A := B1) (c := b1) Try.underlying37 Try.underlying5 Try.underlying9 (Kd.C_drewN HSb.out n_)
                          have cv2 := Kd.C_string (P := Try.prog) (A := some ⟨bs, a, none⟩) (c := c2 - a) Try.underlying37 Try.underlying5 Try.underlying9 HSt.out
                          have cq2 := fun n_ : Nat => Kd.C_string (P := Try.prog) (A := some ⟨bs, a, none⟩) (c := c2 - a) Try.underlying37 Try.underlying5 Try.underlying9 (Kd.C_drewN HSt.out n_)
                          have q1 : (0 : Int) ≤ (a : Int) := by omega
                          have q2 : (a : Int) + (bl.length : Int) ≤ (c2 : Int) := by omega
                          have q3 : (0 : Int) ≤ (a : Int) + (bl.length : Int) := by omega
                          have q4 : (a : Int) ≤ (a : Int) + (bl.length : Int) := by omega
                          have q5 : ¬ c2 = a := by omega
                          have q6 : ((a : Int) + (bl.length : Int)).toNat - a = bl.length := by omega
                          have q7 : decide ((0 : Int) ≤ (a : Int)) = true := decide_eq_true q1
                          clear evs hCT hP hx0 hs1 hbl hsl hav
                          go_wp2
                          repeat (go_quiet (fail); try go_wp2)
                          go_roundw
                          case measure => simp [intOf]; omega
                          case rel => exact ⟨i4 + 1, by omega, by go_num, ⟨pw_below_drewN HB4.out _⟩⟩
                      · obtain rfl : i4 = i := by omega
                        have t4 : decide ((i4 : Int) < (i4 : Int)) = false := decide_eq_false (by omega)
                        go_wp2_with fail
                        go_ret
                        exact ⟨rfl, below_then HT.out.below HT.out.below.size HB4.out⟩
theorem rows_bytes {B : List (List Int)} (hw : ∀ r ∈ B, ∀ x ∈ r, (Lit.int .u8 x).wf = true) (i : Nat) : bytes (Gf.row B i) = true := by
  by_cases h : i < B.length
  · have e : Gf.row B i = B[i] := by simp [Gf.row, List.getD, h]
    rw [e]
    exact bytes_of (hw _ (List.getElem_mem h))
  · have e : Gf.row B i = [] := by simp [Gf.row, List.getD, h]
    rw [e]
    rfl
theorem holds4 (w : World) (x y z : Int) (seg : Int) (wseg : (Lit.int .u64 seg).wf = true) (A : Option Addr) (c : Nat) (B : List (List Int)) (hB : KR.C w A B.length B) (hc : B.length ≤ c) (hw : ∀ r ∈ B, ∀ x ∈ r, (Lit.int .u8 x).wf = true) (hb : (B.map fun r => r.length + 1).sum ≤ 1048576) :
    Calls Try.prog 4 #[.agg #[.int .i64 x, .int .i64 y, .int .i64 z], .int .u64 seg, .slice A B.length c] w fun e w' => e = .returned (.bool true) ∧ Below w.heap.size w w' := by
  rcases check_any x y z with h | ⟨k, p, s, hf, rfl, rfl, rfl⟩
  · exact holds4_no w x y z seg B A B.length c hB rfl hc hb h
  by_cases h : ¬ (s ≤ 600 ∧ k ≤ 12) ∨ 100 < B.length ∨ 20000 < sumTo B B.length
  · exact holds4_off w hf seg B A B.length c hB rfl hc hb h
  obtain ⟨sg, rfl, hsg⟩ := u64_of wseg
  have hsm : s ≤ 600 ∧ k ≤ 12 := by by_cases h' : s ≤ 600 ∧ k ≤ 12; exact h'; exact absurd (.inl h') h
  exact holds4_on w hf sg hsg B A B.length c hB rfl hc hb hsm (by omega) (by omega) (rows_bytes hw)
end Go.Proofs.Ytjnicooboiijgaa.Sg
