/-
  seg.Pages where something is wrong.
-/
import Derived.Test.YtjnicooboiijgaaMSb
set_option linter.unusedVariables false
set_option linter.unusedSimpArgs false
namespace Go.Proofs.Ytjnicooboiijgaa.Sg
open Go.RowKit Go.Proofs.YtjnicooboiijgaaW.PrintWords Go.Proofs.YtjnicooboiijgaaW.PrintLast Go.Proofs.YtjnicooboiijgaaW.PrintMore Go.Proofs.Ytjnicooboiijgaa.PSg Go.Proofs.Ytjnicooboiijgaa.Gf Go.Proofs.Ytjnicooboiijgaa.Rs
set_option maxHeartbeats 8000000 in
set_option maxRecDepth 100000 in
theorem pages24_shape (w : World) (x y z seg row : Int) (A : Option Addr) (n c : Nat) (h : seg_Check.f x y z = some 1) :
    Calls Try.prog 24 #[.agg #[.int .i64 x, .int .i64 y, .int .i64 z], .int .u64 seg, .int .i64 row, .slice A n c] w fun e w' => e = .returned (.tuple #[.slice none 0 0, .int .i64 1]) ∧ Below w.heap.size w w' := by
  have HC := Aside0.mk (fun (W : World) => seg_Check.calls x y z 1 W h)
  have HB := Aside0.mk (below_alloc (Below.refl w.heap.size w) (.cells #[.int .i64 x, .int .i64 y, .int .i64 z] 23))
  clear h
  go_enter Try.func24, Try.ntmps24
  go_wp2_with (go_at_call 22; refine Calls.mono (HC.out _) ?_; rintro e w1 ⟨rfl, hb⟩; replace HB := Aside0.mk (below_then HB.out HB.out.size hb); clear hb HC)
  go_ret2
  exact ⟨rfl, HB.out⟩
set_option maxHeartbeats 8000000 in
set_option maxRecDepth 100000 in
theorem pages24_row (w : World) {k pgs sz : Nat} (hf : Fits k pgs sz) (seg row : Int) (A : Option Addr) (n c : Nat) (h : row < 1 ∨ (pgs : Int) ≤ row) :
    Calls Try.prog 24 #[.agg #[.int .i64 k, .int .i64 pgs, .int .i64 sz], .int .u64 seg, .int .i64 row, .slice A n c] w fun e w' => e = .returned (.tuple #[.slice none 0 0, .int .i64 1]) ∧ Below w.heap.size w w' := by
  have HC := Aside0.mk (fun (W : World) => check22 W hf)
  have HH := Aside0.mk (heap_alloc_last w (.cells #[.int .i64 k, .int .i64 pgs, .int .i64 sz] 23))
  have HB := Aside0.mk (below_alloc (Below.refl w.heap.size w) (.cells #[.int .i64 k, .int .i64 pgs, .int .i64 sz] 23))
  by_cases h1 : row < 1
  · have c1 : decide (row < 1) = true := decide_eq_true h1
    clear h hf
    go_enter Try.func24, Try.ntmps24
    go_wp2_with (go_at_call 22; refine Calls.mono (HC.out _) ?_; rintro e w1 ⟨rfl, hb⟩; replace HH := Aside0.mk ((hb.block _ (heap_lt HH.out)).trans HH.out); replace HB := Aside0.mk (below_then HB.out HB.out.size hb); have y0 := blkc HH.out 0 rfl; have y1 := blkc HH.out 1 rfl; have y2 := blkc HH.out 2 rfl; clear hb HC)
    go_ret2
    exact ⟨rfl, HB.out⟩
  · have c1 : decide (row < 1) = false := decide_eq_false h1
    have h2 : (pgs : Int) ≤ row := by omega
    have c2 : decide ((pgs : Int) ≤ row) = true := decide_eq_true h2
    clear h hf
    go_enter Try.func24, Try.ntmps24
    go_wp2_with (go_at_call 22; refine Calls.mono (HC.out _) ?_; rintro e w1 ⟨rfl, hb⟩; replace HH := Aside0.mk ((hb.block _ (heap_lt HH.out)).trans HH.out); replace HB := Aside0.mk (below_then HB.out HB.out.size hb); have y0 := blkc HH.out 0 rfl; have y1 := blkc HH.out 1 rfl; have y2 := blkc HH.out 2 rfl; clear hb HC)
    go_ret2
    exact ⟨rfl, HB.out⟩
set_option maxHeartbeats 8000000 in
set_option maxRecDepth 100000 in
theorem pages24_long (w : World) {k pgs sz : Nat} (hf : Fits k pgs sz) (seg row : Int) (A : Option Addr) (n c : Nat) (h1 : ¬ row < 1) (h2 : ¬ (pgs : Int) ≤ row) (hn : k * roomN sz < n) :
    Calls Try.prog 24 #[.agg #[.int .i64 k, .int .i64 pgs, .int .i64 sz], .int .u64 seg, .int .i64 row, .slice A n c] w fun e w' => e = .returned (.tuple #[.slice none 0 0, .int .i64 3]) ∧ Below w.heap.size w w' := by
  have HC := Aside0.mk (fun (W : World) => check22 W hf)
  have HR := Aside0.mk (fun (W : World) => row23 W hf)
  have HH := Aside0.mk (heap_alloc_last w (.cells #[.int .i64 k, .int .i64 pgs, .int .i64 sz] 23))
  have HB := Aside0.mk (below_alloc (Below.refl w.heap.size w) (.cells #[.int .i64 k, .int .i64 pgs, .int .i64 sz] 23))
  have c1 : decide (row < 1) = false := decide_eq_false h1
  have c2 : decide ((pgs : Int) ≤ row) = false := decide_eq_false h2
  generalize k * roomN sz = N at *
  have c3 : decide ((N : Int) < (n : Int)) = true := decide_eq_true (by omega)
  have c4 : decide (N < n) = true := decide_eq_true hn
  clear hf
  go_enter Try.func24, Try.ntmps24
  go_wp2_with (first
    | (go_at_call 22; refine Calls.mono (HC.out _) ?_; rintro e w1 ⟨rfl, hb⟩; replace HH := Aside0.mk ((hb.block _ (heap_lt HH.out)).trans HH.out); replace HB := Aside0.mk (below_then HB.out HB.out.size hb); have y0 := blkc HH.out 0 rfl; have y1 := blkc HH.out 1 rfl; have y2 := blkc HH.out 2 rfl; clear hb HC)
    | (go_at_call 23; refine Calls.mono (HR.out _) ?_; rintro e w1 ⟨rfl, hb⟩; replace HH := Aside0.mk ((hb.block _ (heap_lt HH.out)).trans HH.out); replace HB := Aside0.mk (below_then HB.out HB.out.size hb); have y0 := blkc HH.out 0 rfl; have y1 := blkc HH.out 1 rfl; have y2 := blkc HH.out 2 rfl; clear hb HR))
  go_ret2
  exact ⟨rfl, HB.out⟩
end Go.Proofs.Ytjnicooboiijgaa.Sg
