/-
  rs.products: all products of an element.
-/
import Derived.Test.YtjolnjckgoilpaaRsTold
import Derived.Deep.WholeRow
import Derived.Deep.MidRow
import Derived.Laws.CopyRow
set_option linter.unusedVariables false
set_option linter.unusedSimpArgs false
namespace Go.Proofs.Ytjolnjckgoilpaa.Rs
open Go.RowKit Go.Proofs.YtjolnjckgoilpaaW.PrintWords Go.Proofs.YtjolnjckgoilpaaW.PrintLast Go.Proofs.YtjolnjckgoilpaaW.PrintMore Go.Proofs.Ytjolnjckgoilpaa.PRa Go.Proofs.Ytjolnjckgoilpaa.Gf
/-- The products of an element with all others. -/
def pT (a : Nat) : Array Value := rowCells 256 256 fun j => ((GfM.M a j : Nat) : Int)
theorem zero82 (f : Nat → Int) : Try.zeroCells82 = rowCells 256 0 f := by
  have h : rowCells 256 0 f = rowCells 256 0 (fun _ => 0) := by unfold rowCells; simp
  have h2 : Try.zeroCells82 = rowCells 256 0 (fun _ => 0) := by kernel_rfl
  exact h2.trans h.symm
theorem info82 : (Try.prog.info? 82).map (·.size) = some 256 := by kernel_rfl
theorem rowCells_get {c j k : Nat} {f : Nat → Int} (hc : k < c) : (rowCells c j f)[k]? = some (.int .u8 (if k < j then f k else 0)) := by
  unfold rowCells; simp [hc]
theorem rowCells_one (c j : Nat) (f : Nat → Int) : (rowCells c j f).all (·.oneCell') = true := by
  rw [Array.all_eq_true_iff_forall_mem]
  intro v hv
  simp only [rowCells, List.mem_toArray, List.mem_map] at hv
  obtain ⟨x, _, rfl⟩ := hv
  rfl
theorem wrap_u8 (k : Nat) (h : k < 256) : IntKind.u8.wrap (k : Int) = (k : Int) := by
  rw [show IntKind.u8.wrap (k : Int) = (k : Int) % 256 by first | rfl | simp [IntKind.wrap]]
  omega
theorem frozen_blk {w : World} {g j : Nat} {t : TypeId} {cs : Array Value} (h : w.heap[g]? = some (.cells cs t (0, 0))) : w.frozen? ⟨g, j, none⟩ = false := by
  unfold World.frozen?
  simp [h]
set_option maxHeartbeats 4000000 in
set_option maxRecDepth 100000 in
theorem products61 (w : World) (a : Nat) (ha : a < 256) : Calls Try.prog 61 #[.int .u8 a] w fun e w' => e = .returned (.agg (pT a)) ∧ Below w.heap.size w w' := by
  have HM := Aside0.mk (fun (j : Nat) (hj : j < 256) => mul_ok 100 a j (by omega) ha hj)
  have HI := Aside0.mk info82
  go_enter Try.func61, Try.ntmps61
  go_wp2_with fail
  rw [zero82 (fun j => ((GfM.M a j : Nat) : Int))]
  go_loopw [4] (fun i W => ∃ (k : Nat), k ≤ 256 ∧ i = .int .i64 k ∧ Aside0 (W.heap[w.heap.size]? = some (.cells (rowCells 256 k fun j => ((GfM.M a j : Nat) : Int)) 82 (0, 0))) ∧ Aside0 (Below w.heap.size w W)) (fun i _ => 256 - (intOf i).toNat)
  case atStart => exact ⟨0, Nat.zero_le _, rfl, ⟨heap_alloc_last _ _⟩, ⟨below_alloc (Below.refl _ _) _⟩⟩
  case round =>
    obtain ⟨k, hk, rfl, HG, HB⟩ := hrel
    by_cases hk2 : k < 256
    · clear hk
      have hki : decide ((k : Int) < 256) = true := decide_eq_true (by omega)
      have hkw : IntKind.u8.wrap (k : Int) = (k : Int) := wrap_u8 k hk2
      have hz : wr.frozen? ⟨w.heap.size, k, none⟩ = false := frozen_blk HG.out
      have hc : wr.cell? ⟨w.heap.size, k, none⟩ = some (.int .u8 0) := by
        rw [cell_of_row wr w.heap.size k _ 82 (0, 0) HG.out, rowCells_get hk2, if_neg (Nat.lt_irrefl _)]
      go_wp2_with (go_at_call 60; refine (gf_Mul.calls 100 a k _ _ (HM.out k hk2)).mono ?_; rintro e w1 ⟨rfl, ⟨nd, rfl⟩⟩)
      have HG2 : Aside0 (((wr.drewN nd).setCell ⟨w.heap.size, k, none⟩ (.int .u8 ((GfM.M a k : Nat) : Int))).heap[w.heap.size]? = some (.cells (rowCells 256 (k + 1) fun j => ((GfM.M a j : Nat) : Int)) 82 (0, 0))) := ⟨by
        have := blkset (w := wr.drewN nd) HG.out k (.int .u8 ((GfM.M a k : Nat) : Int))
        rw [this]
        exact congrArg (fun c => some (Obj.cells c 82 (0, 0))) (rowCells_set (c := 256) (j := k) (f := fun j => ((GfM.M a j : Nat) : Int)))⟩
      have HB2 := Aside0.mk (below_set (g := w.heap.size) (j := k) (v := .int .u8 ((GfM.M a k : Nat) : Int)) (pw_below_drewN HB.out nd) (Nat.le_refl _))
      clear HG HB
      go_roundw
      case measure => simp [intOf]; omega
      case rel => exact ⟨k + 1, by omega, by go_num, HG2, HB2⟩
    · obtain rfl : k = 256 := by omega
      replace HG : Aside0 (wr.heap[w.heap.size]? = some (.cells (pT a) 82 (0, 0))) := ⟨HG.out⟩
      go_wp2_with (first
        | ((with_reducible refine gate_dst (N := 14) rfl ?_); refine wpList_load_row rfl 82 (.tmp 2) rfl w.heap.size rfl 82 (pT a) (0, 0) _ HG.out Try.underlying82 rfl HI.out ?_)
        | ((with_reducible refine gate_store (t := 82) (p := 2) (v := .tmp 14) rfl ?_); refine wpList_store_row rfl 82 (.tmp 2) (.tmp 14) rfl w.heap.size (pT a) rfl rfl 82 (pT a) HG.out HI.out rfl (rowCells_one _ _ _) ?_; rw [setRow_self _ _ _ _ _ HG.out]))
      refine bodyPost_ret (results_cell_row rfl _ _ w.heap.size 82 (pT a) (0, 0) _ rfl HG.out Try.underlying82 rfl HI.out) rfl ?_
      exact ⟨rfl, HB.out⟩
end Go.Proofs.Ytjolnjckgoilpaa.Rs
