/-
  cmp.Compare of texts; sha.Compare.
-/
import Derived.Test.YtcagmiglgpjcjaaShaEq2
import Derived.Laws.Cover1
set_option linter.unusedVariables false
set_option linter.unusedSimpArgs false
namespace Go.Proofs.Ytcagmiglgpjcjaa.Sh
open Go.RowKit Go.Proofs.YtcagmiglgpjcjaaW.PrintWords Go.Proofs.YtcagmiglgpjcjaaW.PrintLast Go.Proofs.YtcagmiglgpjcjaaW.PrintMore Go.Proofs.Ytcagmiglgpjcjaa.PSa

def cmpS (a b : ByteArray) : Int := if Op.bytesLess a.toList b.toList = true then -1 else if (a.toList == b.toList) = true then 0 else 1
set_option maxRecDepth 100000 in
theorem nan33 (a : ByteArray) (w : World) : Calls Try.prog 33 #[.string a] w fun e w' => e = .returned (.bool false) ∧ w' = w := by
  go_enter Try.func33, Try.ntmps33
  go_wp2
  go_ret
  exact ⟨by simp, rfl⟩
set_option maxRecDepth 100000 in
theorem cmp26 (a b : ByteArray) (w : World) : Calls Try.prog 26 #[.string a, .string b] w fun e w' => e = .returned (.int .i64 (cmpS a b)) ∧ w' = w := by
  have HN := Aside0.mk (fun x W => nan33 x W)
  go_enter Try.func26, Try.ntmps26
  cases h1 : Op.bytesLess a.toList b.toList with
  | true =>
    go_wp2_with (go_at_call 33; refine (HN.out _ _).mono ?_; rintro e w2 ⟨rfl, rfl⟩)
    go_ret
    exact ⟨by simp [cmpS, h1], rfl⟩
  | false =>
    have hgt : ∀ W, (binOp .gtr 9 (.string a) (.string b)).run Try.prog W = .ok (.bool !(a.toList == b.toList)) W := fun W => by rw [binOp_string_gtr, h1]; simp
    cases h2 : (a.toList == b.toList) with
    | true =>
      rw [h2] at hgt
      go_wp2_with (go_at_call 33; refine (HN.out _ _).mono ?_; rintro e w2 ⟨rfl, rfl⟩)
      go_ret
      exact ⟨by simp [cmpS, h1, h2], rfl⟩
    | false =>
      rw [h2] at hgt
      go_wp2_with (go_at_call 33; refine (HN.out _ _).mono ?_; rintro e w2 ⟨rfl, rfl⟩)
      go_ret
      exact ⟨by simp [cmpS, h1, h2], rfl⟩
set_option maxRecDepth 100000 in
set_option maxHeartbeats 4000000 in
theorem compare18 (w : World) (x y : List Int) (hx : x.length = 32) (hy : y.length = 32) :
    Calls Try.prog 18 #[.agg (u8s x), .agg (u8s y)] w fun e w' => e = .returned (.int .i64 (if x = y then 0 else cmpS (strOfNums x) (strOfNums y))) ∧ Below w.heap.size w w' := by
  have HI := Aside0.mk (show ∀ l : List Int, l.length = 32 → (Try.prog.info? 25).map (·.size) = some (u8s l).size from fun l hl => by rw [u8s_size, hl]; exact zero25.2)
  have s1 : (w.alloc (.cells (u8s x) 25)).heap.size = w.heap.size + 1 := by show (w.heap.push _).size = _; simp
  have hB0 : Below w.heap.size w ((w.alloc (.cells (u8s x) 25)).alloc (.cells (u8s y) 25)) := ((Below.refl _ _).alloc (Nat.le_refl _) _).alloc (by omega) _
  have hx0 : ((w.alloc (.cells (u8s x) 25)).alloc (.cells (u8s y) 25)).heap[w.heap.size]? = some (.cells (u8s x) 25 (0, 0)) := blkalloc (blk_new w _) _
  have hy0 : ((w.alloc (.cells (u8s x) 25)).alloc (.cells (u8s y) 25)).heap[w.heap.size + 1]? = some (.cells (u8s y) 25 (0, 0)) := by rw [← s1]; exact blk_new _ _
  have heq := fun W => eq25 x y hx hy W
  go_enter Try.func18, Try.ntmps18
  by_cases he : x = y
  · subst he
    have hd : decide (x = x) = true := decide_eq_true rfl
    rw [hd] at heq
    go_wp2_with (first
      | ((with_reducible refine gate_dst (N := 2) rfl ?_); refine step_box rfl 25 (.tmp 0) rfl (u8s x) rfl ?_)
      | ((with_reducible refine gate_dst (N := 3) rfl ?_); refine step_box rfl 25 (.tmp 1) rfl (u8s x) rfl ?_; generalize ((w.alloc (.cells (u8s x) 25)).alloc (.cells (u8s x) 25)) = wA at *)
      | ((with_reducible refine gate_dst (N := 5) rfl ?_); refine wpList_load_row rfl 25 (.tmp 2) rfl w.heap.size rfl 25 (u8s x) (0, 0) _ hx0 Try.underlying25 rfl (HI.out x hx) ?_)
      | ((with_reducible refine gate_dst (N := 6) rfl ?_); refine wpList_load_row rfl 25 (.tmp 3) rfl (w.heap.size + 1) rfl 25 (u8s x) (0, 0) _ hy0 Try.underlying25 rfl (HI.out x hx) ?_))
    go_ret
    exact ⟨by simp, hB0⟩
  · have hd : decide (x = y) = false := decide_eq_false he
    rw [hd] at heq
    go_wp2_with (first
      | ((with_reducible refine gate_dst (N := 2) rfl ?_); refine step_box rfl 25 (.tmp 0) rfl (u8s x) rfl ?_)
      | ((with_reducible refine gate_dst (N := 3) rfl ?_); refine step_box rfl 25 (.tmp 1) rfl (u8s y) rfl ?_; generalize ((w.alloc (.cells (u8s x) 25)).alloc (.cells (u8s y) 25)) = wA at *)
      | ((with_reducible refine gate_dst (N := 5) rfl ?_); refine wpList_load_row rfl 25 (.tmp 2) rfl w.heap.size rfl 25 (u8s x) (0, 0) _ hx0 Try.underlying25 rfl (HI.out x hx) ?_)
      | ((with_reducible refine gate_dst (N := 6) rfl ?_); refine wpList_load_row rfl 25 (.tmp 3) rfl (w.heap.size + 1) rfl 25 (u8s y) (0, 0) _ hy0 Try.underlying25 rfl (HI.out y hy) ?_))
    have cx := C_blk hx0 (by omega)
    have cy := C_blk hy0 (by omega)
    rw [hx] at cx
    rw [hy] at cy
    have hcx := fun n : Nat => Kd.C_string (P := Try.prog) (c := 32) Try.underlying23 Try.underlying5 Try.underlying9 (Kd.C_drewN cx n)
    have hcy := fun n : Nat => Kd.C_string (P := Try.prog) (c := 32) Try.underlying23 Try.underlying5 Try.underlying9 (Kd.C_drewN cy n)
    have HC := Aside0.mk (fun W => cmp26 (strOfNums x) (strOfNums y) W)
    have HB := Aside0.mk hB0
    generalize hxs : strOfNums x = xs at *
    generalize hys : strOfNums y = ys at *
    have HXS := Aside0.mk hxs
    have HYS := Aside0.mk hys
    clear cx cy hB0 hx0 hy0 hxs hys
    go_quiet ((go_at_call 26; exact (HC.out _).mono fun e w' ⟨h1, h2⟩ => ⟨h1, _, h2⟩))
    go_wp2
    go_ret
    exact ⟨by first | (rw [if_neg he, HXS.out, HYS.out]; rfl) | (rw [HXS.out, HYS.out]; rfl), pw_below_drewN HB.out nq⟩
end Go.Proofs.Ytcagmiglgpjcjaa.Sh
