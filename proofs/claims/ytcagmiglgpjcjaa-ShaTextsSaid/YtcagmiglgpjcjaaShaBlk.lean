/-
  The walk of the reference's block.
-/
import Derived.Test.YtcagmiglgpjcjaaShaDef
set_option linter.unusedVariables false
set_option linter.unusedSimpArgs false
namespace Go.Proofs.Ytcagmiglgpjcjaa.Sh
open Go.RowKit Go.Proofs.YtcagmiglgpjcjaaW.PrintWords Go.Proofs.YtcagmiglgpjcjaaW.PrintLast Go.Proofs.YtcagmiglgpjcjaaW.PrintMore Go.Proofs.Ytcagmiglgpjcjaa.PSa

/-- The four rows of a block's walk. -/
structure Blk (w wr : World) (B : Nat) (h K r W : List Int) : Prop where
  below : Below B w wr
  bh : wr.heap[B]? = some (.cells (u32s h) 49 (0, 0))
  bk : wr.heap[B + 1]? = some (.cells (u32s K) 50 (0, 0))
  br : wr.heap[B + 1 + 1]? = some (.cells (u32s r) 49 (0, 0))
  bw : wr.heap[B + 1 + 1 + 1]? = some (.cells (u32s W) 50 (0, 0))
theorem Blk.start (w : World) (h K : List Int) : Blk w ((((w.alloc (.cells (u32s h) 49)).alloc (.cells (u32s K) 50)).alloc (.cells (u32s z8) 49)).alloc (.cells (u32s z64) 50)) w.heap.size h K z8 z64 := by
  have s1 : ∀ (w : World) o, (w.alloc o).heap.size = w.heap.size + 1 := fun w o => by show (w.heap.push o).size = _; simp
  refine ⟨((((Below.refl _ _).alloc (Nat.le_refl _) _).alloc (by simp only [s1]; omega) _).alloc (by simp only [s1]; omega) _).alloc (by simp only [s1]; omega) _, ?_, ?_, ?_, ?_⟩
  · exact blkalloc (blkalloc (blkalloc (blk_new w _) _) _) _
  · have := blkalloc (blkalloc (blk_new (w.alloc (.cells (u32s h) 49)) (.cells (u32s K) 50)) (.cells (u32s z8) 49)) (.cells (u32s z64) 50)
    rwa [s1] at this
  · have := blkalloc (blk_new ((w.alloc (.cells (u32s h) 49)).alloc (.cells (u32s K) 50)) (.cells (u32s z8) 49)) (.cells (u32s z64) 50)
    rwa [s1, s1] at this
  · have := blk_new (((w.alloc (.cells (u32s h) 49)).alloc (.cells (u32s K) 50)).alloc (.cells (u32s z8) 49)) (.cells (u32s z64) 50)
    rwa [s1, s1, s1] at this
theorem Blk.setW {w wr : World} {B : Nat} {h K r W : List Int} (H : Blk w wr B h K r W) (i : Nat) (x : Int) : Blk w (wr.setCell ⟨B + 1 + 1 + 1, i, none⟩ (.int .u32 x)) B h K r (W.set i x) :=
  ⟨H.below.setCell (by show B ≤ B + 1 + 1 + 1; omega) _, blkfar H.bh (by show B ≠ B + 1 + 1 + 1; omega) _, blkfar H.bk (by show B + 1 ≠ B + 1 + 1 + 1; omega) _, blkfar H.br (by show B + 1 + 1 ≠ B + 1 + 1 + 1; omega) _, by rw [← u32s_set]; exact blkset H.bw i _⟩
theorem Blk.setH {w wr : World} {B : Nat} {h K r W : List Int} (H : Blk w wr B h K r W) (i : Nat) (x : Int) : Blk w (wr.setCell ⟨B, i, none⟩ (.int .u32 x)) B (h.set i x) K r W :=
  ⟨H.below.setCell (by show B ≤ B; omega) _, by rw [← u32s_set]; exact blkset H.bh i _, blkfar H.bk (by show B + 1 ≠ B; omega) _, blkfar H.br (by show B + 1 + 1 ≠ B; omega) _, blkfar H.bw (by show B + 1 + 1 + 1 ≠ B; omega) _⟩
theorem Blk.setRow {w wr : World} {B : Nat} {h K r W : List Int} (H : Blk w wr B h K r W) {g : Nat} (hg : B + 1 + 1 + 1 < g) (cs : Array Value) : Blk w (wr.setRow g cs) B h K r W :=
  ⟨below_setRow H.below (by omega) cs, (setRow_other wr g _ cs (by omega)).trans H.bh, (setRow_other wr g _ cs (by omega)).trans H.bk, (setRow_other wr g _ cs (by omega)).trans H.br, (setRow_other wr g _ cs (by omega)).trans H.bw⟩
theorem Blk.drew {w wr : World} {B : Nat} {h K r W : List Int} (H : Blk w wr B h K r W) : Blk w wr.drew B h K r W := ⟨H.below.drew, H.bh, H.bk, H.br, H.bw⟩
theorem Blk.drewN {w wr : World} {B : Nat} {h K r W : List Int} (H : Blk w wr B h K r W) (n : Nat) : Blk w (wr.drewN n) B h K r W := ⟨⟨H.below.1, H.below.2, H.below.3, H.below.4, H.below.5⟩, H.bh, H.bk, H.br, H.bw⟩
set_option maxRecDepth 100000 in
set_option maxHeartbeats 40000000 in
theorem block21 (w : World) (h K m : List Int) (A : Option Addr) (c : Nat) (hh : h.length = 8) (hK : K.length = 64) (hm : KB.C w A 64 m) :
    Calls Try.prog 21 #[.agg (u32s h), .agg (u32s K), .slice A 64 c] w fun e w' => e = .returned (.agg (u32s (comp h K m))) ∧ Below w.heap.size w w' := by
  go_enter Try.func21, Try.ntmps21
  go_wp2_with (first
    | (refine step_box rfl 49 (.tmp 0) rfl (u32s h) rfl ?_)
    | (refine step_box rfl 50 (.tmp 1) rfl (u32s K) rfl ?_)
    | (refine step_alloc rfl 49 rfl (u32s z8) zero49.1 ?_)
    | (refine step_alloc rfl 50 rfl (u32s z64) zero50.1 ?_))
  have H0 := Blk.start w h K
  generalize ((((w.alloc (.cells (u32s h) 49)).alloc (.cells (u32s K) 50)).alloc (.cells (u32s z8) 49)).alloc (.cells (u32s z64) 50)) = w0 at *
  go_loopw [8] (fun v wr => ∃ k : Nat, k ≤ 16 ∧ v = .int .i64 (k : Nat) ∧ Blk w wr w.heap.size h K z8 (Ws m k)) (fun v _ => 16 - (intOf v).toNat)
  case atStart => exact ⟨0, Nat.zero_le _, rfl, H0⟩
  case round =>
    clear H0
    obtain ⟨k, hk, rfl, hS⟩ := hrel
    by_cases hlt : k < 16
    · as_aux_lemma =>
        obtain ⟨ad, rfl, hc0⟩ := Kd.at_int (Kd.C_below hm hS.below) (4 * (k : Int)) (by omega) (by omega)
        obtain ⟨ad1, e1, hc1⟩ := Kd.at_int (Kd.C_below hm hS.below) (4 * (k : Int) + 1) (by omega) (by omega)
        obtain ⟨ad2, e2, hc2⟩ := Kd.at_int (Kd.C_below hm hS.below) (4 * (k : Int) + 2) (by omega) (by omega)
        obtain ⟨ad3, e3, hc3⟩ := Kd.at_int (Kd.C_below hm hS.below) (4 * (k : Int) + 3) (by omega) (by omega)
        cases e1; cases e2; cases e3
        have hfr := frozen_of_row wr _ k _ _ hS.bw
        have q1 : (0 : Int) ≤ (k : Int) := by omega
        have q2 : (k : Int) < 64 := by omega
        have q3 : (k : Int) < 16 := by omega
        have w0 : wrap64 (4 * (k : Int)) = 4 * (k : Int) := by unfold wrap64; omega
        have w1 : wrap64 (4 * (k : Int) + 1) = 4 * (k : Int) + 1 := by unfold wrap64; omega
        have w2 : wrap64 (4 * (k : Int) + 2) = 4 * (k : Int) + 2 := by unfold wrap64; omega
        have w3 : wrap64 (4 * (k : Int) + 3) = 4 * (k : Int) + 3 := by unfold wrap64; omega
        have r0 : (0 : Int) ≤ 4 * (k : Int) := by omega
        have r1 : (0 : Int) ≤ 4 * (k : Int) + 1 := by omega
        have r2 : (0 : Int) ≤ 4 * (k : Int) + 2 := by omega
        have r3 : (0 : Int) ≤ 4 * (k : Int) + 3 := by omega
        have s0 : 4 * (k : Int) < 64 := by omega
        have s1 : 4 * (k : Int) + 1 < 64 := by omega
        have s2 : 4 * (k : Int) + 2 < 64 := by omega
        have s3 : 4 * (k : Int) + 3 < 64 := by omega
        have hcw := at32_cell hS.bw (i := k) (by rw [Ws_length]; omega)
        have HX : Hid (word m (Ws m k) k = wd (rd m (4 * (k : Int))) (rd m (4 * (k : Int) + 1)) (rd m (4 * (k : Int) + 2)) (rd m (4 * (k : Int) + 3))) := if_pos hlt
        generalize at32 (Ws m k) k = xw at *
        have HS : Hid (Blk w wr w.heap.size h K z8 (Ws m k)) := hS
        clear hS hm
        generalize rd m (4 * (k : Int)) = x0 at *
        generalize rd m (4 * (k : Int) + 1) = x1 at *
        generalize rd m (4 * (k : Int) + 2) = x2 at *
        generalize rd m (4 * (k : Int) + 3) = x3 at *
        go_wp2
        refine start_ (n := 36) (S := fun w' => w'.cell? (ad.add (4 * (k : Int)).toNat) = some (Value.int IntKind.u8 x0) ∧ w'.cell? (ad.add (4 * (k : Int) + 1).toNat) = some (Value.int IntKind.u8 x1) ∧ w'.cell? (ad.add (4 * (k : Int) + 2).toNat) = some (Value.int IntKind.u8 x2) ∧ w'.cell? (ad.add (4 * (k : Int) + 3).toNat) = some (Value.int IntKind.u8 x3)) (ds := [35]) #[false, false, false, false, false, false, false, false, false, false, false, false, false, false, false, false, false, false, false, false, false, false, false, false, false, false, false, false, false, false, false, false, false, false, false, false] (by kernel_rfl) rfl rfl ⟨hc0, hc1, hc2, hc3⟩ (fun hHeld => ?_)
        refine pure_ (i := 0) (N := some 25) (v := ?_) (a' := ?_) #[true, false, false, false, false, false, false, false, false, false, false, false, false, false, false, false, false, false, false, false, false, false, false, false, false, false, false, false, false, false, false, false, false, false, false, false] rfl rfl (by kernel_rfl) (fun _ _ _ h => h) (Or.inl ⟨by rfl, ?_⟩) ?_ ?_
        rotate_left
        · intro w'
          go_simp
          with_reducible rfl
        rotate_left
        · simp only [Act.put, List.setIfInBounds_toArray, List.set_cons_zero, List.set_cons_succ, i64_w, i32_w]
          rfl
        refine pure_ (i := 1) (N := some 26) (v := ?_) (a' := ?_) #[true, true, false, false, false, false, false, false, false, false, false, false, false, false, false, false, false, false, false, false, false, false, false, false, false, false, false, false, false, false, false, false, false, false, false, false] rfl rfl (by kernel_rfl) (fun _ _ _ h => h) (Or.inl ⟨by rfl, ?_⟩) ?_ ?_
        rotate_left
        · intro w'
          go_simp
          with_reducible rfl
        rotate_left
        · simp only [Act.put, List.setIfInBounds_toArray, List.set_cons_zero, List.set_cons_succ, i64_w, i32_w]
          rfl
        refine pure_ (i := 2) (N := some 27) (v := ?_) (a' := ?_) #[true, true, true, false, false, false, false, false, false, false, false, false, false, false, false, false, false, false, false, false, false, false, false, false, false, false, false, false, false, false, false, false, false, false, false, false] rfl rfl (by kernel_rfl) (fun _ _ _ h => h) (Or.inl ⟨by rfl, ?_⟩) ?_ ?_
        rotate_left
        · intro w'
          go_simp
          with_reducible rfl
        rotate_left
        · simp only [Act.put, List.setIfInBounds_toArray, List.set_cons_zero, List.set_cons_succ, i64_w, i32_w]
          rfl
        refine pure_ (i := 3) (N := some 28) (v := ?_) (a' := ?_) #[true, true, true, true, false, false, false, false, false, false, false, false, false, false, false, false, false, false, false, false, false, false, false, false, false, false, false, false, false, false, false, false, false, false, false, false] rfl rfl (by kernel_rfl) (fun _ _ _ h => h) (Or.inl ⟨by rfl, ?_⟩) ?_ ?_
        rotate_left
        · intro w'
          go_simp
          with_reducible rfl
        rotate_left
        · simp only [Act.put, List.setIfInBounds_toArray, List.set_cons_zero, List.set_cons_succ, i64_w, i32_w]
          rfl
        refine pure_ (i := 4) (N := some 29) (v := ?_) (a' := ?_) #[true, true, true, true, true, false, false, false, false, false, false, false, false, false, false, false, false, false, false, false, false, false, false, false, false, false, false, false, false, false, false, false, false, false, false, false] rfl rfl (by kernel_rfl) (fun _ _ _ h => h) (Or.inl ⟨by rfl, ?_⟩) ?_ ?_
        rotate_left
        · intro w'
          go_simp
          with_reducible rfl
        rotate_left
        · simp only [Act.put, List.setIfInBounds_toArray, List.set_cons_zero, List.set_cons_succ, i64_w, i32_w]
          rfl
        refine pure_ (i := 8) (N := some 33) (v := ?_) (a' := ?_) #[true, true, true, true, true, false, false, false, true, false, false, false, false, false, false, false, false, false, false, false, false, false, false, false, false, false, false, false, false, false, false, false, false, false, false, false] rfl rfl (by kernel_rfl) (fun _ _ _ h => h) (Or.inl ⟨by rfl, ?_⟩) ?_ ?_
        rotate_left
        · intro w'
          go_simp
          with_reducible rfl
        rotate_left
        · simp only [Act.put, List.setIfInBounds_toArray, List.set_cons_zero, List.set_cons_succ, i64_w, i32_w]
          rfl
        refine pure_ (i := 9) (N := some 34) (v := ?_) (a' := ?_) #[true, true, true, true, true, false, false, false, true, true, false, false, false, false, false, false, false, false, false, false, false, false, false, false, false, false, false, false, false, false, false, false, false, false, false, false] rfl rfl (by kernel_rfl) (fun _ _ _ h => h) (Or.inl ⟨by rfl, ?_⟩) ?_ ?_
        rotate_left
        · intro w'
          go_simp
          with_reducible rfl
        rotate_left
        · simp only [Act.put, List.setIfInBounds_toArray, List.set_cons_zero, List.set_cons_succ, i64_w, i32_w]
          rfl
        refine pure_ (i := 10) (N := some 35) (v := ?_) (a' := ?_) #[true, true, true, true, true, false, false, false, true, true, true, false, false, false, false, false, false, false, false, false, false, false, false, false, false, false, false, false, false, false, false, false, false, false, false, false] rfl rfl (by kernel_rfl) (fun _ _ _ h => h) (Or.inl ⟨by rfl, ?_⟩) ?_ ?_
        rotate_left
        · intro w'
          go_simp
          with_reducible rfl
        rotate_left
        · simp only [Act.put, List.setIfInBounds_toArray, List.set_cons_zero, List.set_cons_succ, i64_w, i32_w]
          rfl
        refine pure_ (i := 11) (N := some 36) (v := ?_) (a' := ?_) #[true, true, true, true, true, false, false, false, true, true, true, true, false, false, false, false, false, false, false, false, false, false, false, false, false, false, false, false, false, false, false, false, false, false, false, false] rfl rfl (by kernel_rfl) (fun _ _ _ h => h) (Or.inl ⟨by rfl, ?_⟩) ?_ ?_
        rotate_left
        · intro w'
          go_simp
          with_reducible rfl
        rotate_left
        · simp only [Act.put, List.setIfInBounds_toArray, List.set_cons_zero, List.set_cons_succ, i64_w, i32_w]
          rfl
        refine pure_ (i := 12) (N := some 37) (v := ?_) (a' := ?_) #[true, true, true, true, true, false, false, false, true, true, true, true, true, false, false, false, false, false, false, false, false, false, false, false, false, false, false, false, false, false, false, false, false, false, false, false] rfl rfl (by kernel_rfl) (fun _ _ _ h => h) (Or.inl ⟨by rfl, ?_⟩) ?_ ?_
        rotate_left
        · intro w'
          go_simp
          with_reducible rfl
        rotate_left
        · simp only [Act.put, List.setIfInBounds_toArray, List.set_cons_zero, List.set_cons_succ, i64_w, i32_w]
          rfl
        refine pure_ (i := 17) (N := some 42) (v := ?_) (a' := ?_) #[true, true, true, true, true, false, false, false, true, true, true, true, true, false, false, false, false, true, false, false, false, false, false, false, false, false, false, false, false, false, false, false, false, false, false, false] rfl rfl (by kernel_rfl) (fun _ _ _ h => h) (Or.inl ⟨by rfl, ?_⟩) ?_ ?_
        rotate_left
        · intro w'
          go_simp
          with_reducible rfl
        rotate_left
        · simp only [Act.put, List.setIfInBounds_toArray, List.set_cons_zero, List.set_cons_succ, i64_w, i32_w]
          rfl
        refine pure_ (i := 18) (N := some 43) (v := ?_) (a' := ?_) #[true, true, true, true, true, false, false, false, true, true, true, true, true, false, false, false, false, true, true, false, false, false, false, false, false, false, false, false, false, false, false, false, false, false, false, false] rfl rfl (by kernel_rfl) (fun _ _ _ h => h) (Or.inl ⟨by rfl, ?_⟩) ?_ ?_
        rotate_left
        · intro w'
          go_simp
          with_reducible rfl
        rotate_left
        · simp only [Act.put, List.setIfInBounds_toArray, List.set_cons_zero, List.set_cons_succ, i64_w, i32_w]
          rfl
        refine pure_ (i := 19) (N := some 44) (v := ?_) (a' := ?_) #[true, true, true, true, true, false, false, false, true, true, true, true, true, false, false, false, false, true, true, true, false, false, false, false, false, false, false, false, false, false, false, false, false, false, false, false] rfl rfl (by kernel_rfl) (fun _ _ _ h => h) (Or.inl ⟨by rfl, ?_⟩) ?_ ?_
        rotate_left
        · intro w'
          go_simp
          with_reducible rfl
        rotate_left
        · simp only [Act.put, List.setIfInBounds_toArray, List.set_cons_zero, List.set_cons_succ, i64_w, i32_w]
          rfl
        refine pure_ (i := 20) (N := some 45) (v := ?_) (a' := ?_) #[true, true, true, true, true, false, false, false, true, true, true, true, true, false, false, false, false, true, true, true, true, false, false, false, false, false, false, false, false, false, false, false, false, false, false, false] rfl rfl (by kernel_rfl) (fun _ _ _ h => h) (Or.inl ⟨by rfl, ?_⟩) ?_ ?_
        rotate_left
        · intro w'
          go_simp
          with_reducible rfl
        rotate_left
        · simp only [Act.put, List.setIfInBounds_toArray, List.set_cons_zero, List.set_cons_succ, i64_w, i32_w]
          rfl
        refine pure_ (i := 21) (N := some 46) (v := ?_) (a' := ?_) #[true, true, true, true, true, false, false, false, true, true, true, true, true, false, false, false, false, true, true, true, true, true, false, false, false, false, false, false, false, false, false, false, false, false, false, false] rfl rfl (by kernel_rfl) (fun _ _ _ h => h) (Or.inl ⟨by rfl, ?_⟩) ?_ ?_
        rotate_left
        · intro w'
          go_simp
          with_reducible rfl
        rotate_left
        · simp only [Act.put, List.setIfInBounds_toArray, List.set_cons_zero, List.set_cons_succ, i64_w, i32_w]
          rfl
        refine pure_ (i := 26) (N := some 51) (v := ?_) (a' := ?_) #[true, true, true, true, true, false, false, false, true, true, true, true, true, false, false, false, false, true, true, true, true, true, false, false, false, false, true, false, false, false, false, false, false, false, false, false] rfl rfl (by kernel_rfl) (fun _ _ _ h => h) (Or.inl ⟨by rfl, ?_⟩) ?_ ?_
        rotate_left
        · intro w'
          go_simp
          with_reducible rfl
        rotate_left
        · simp only [Act.put, List.setIfInBounds_toArray, List.set_cons_zero, List.set_cons_succ, i64_w, i32_w]
          rfl
        refine pure_ (i := 27) (N := some 52) (v := ?_) (a' := ?_) #[true, true, true, true, true, false, false, false, true, true, true, true, true, false, false, false, false, true, true, true, true, true, false, false, false, false, true, true, false, false, false, false, false, false, false, false] rfl rfl (by kernel_rfl) (fun _ _ _ h => h) (Or.inl ⟨by rfl, ?_⟩) ?_ ?_
        rotate_left
        · intro w'
          go_simp
          with_reducible rfl
        rotate_left
        · simp only [Act.put, List.setIfInBounds_toArray, List.set_cons_zero, List.set_cons_succ, i64_w, i32_w]
          rfl
        refine pure_ (i := 28) (N := some 53) (v := ?_) (a' := ?_) #[true, true, true, true, true, false, false, false, true, true, true, true, true, false, false, false, false, true, true, true, true, true, false, false, false, false, true, true, true, false, false, false, false, false, false, false] rfl rfl (by kernel_rfl) (fun _ _ _ h => h) (Or.inl ⟨by rfl, ?_⟩) ?_ ?_
        rotate_left
        · intro w'
          go_simp
          with_reducible rfl
        rotate_left
        · simp only [Act.put, List.setIfInBounds_toArray, List.set_cons_zero, List.set_cons_succ, i64_w, i32_w]
          rfl
        refine pure_ (i := 29) (N := some 54) (v := ?_) (a' := ?_) #[true, true, true, true, true, false, false, false, true, true, true, true, true, false, false, false, false, true, true, true, true, true, false, false, false, false, true, true, true, true, false, false, false, false, false, false] rfl rfl (by kernel_rfl) (fun _ _ _ h => h) (Or.inl ⟨by rfl, ?_⟩) ?_ ?_
        rotate_left
        · intro w'
          go_simp
          with_reducible rfl
        rotate_left
        · simp only [Act.put, List.setIfInBounds_toArray, List.set_cons_zero, List.set_cons_succ, i64_w, i32_w]
          rfl
        refine pure_ (i := 30) (N := some 55) (v := ?_) (a' := ?_) #[true, true, true, true, true, false, false, false, true, true, true, true, true, false, false, false, false, true, true, true, true, true, false, false, false, false, true, true, true, true, true, false, false, false, false, false] rfl rfl (by kernel_rfl) (fun _ _ _ h => h) (Or.inl ⟨by rfl, ?_⟩) ?_ ?_
        rotate_left
        · intro w'
          go_simp
          with_reducible rfl
        rotate_left
        · simp only [Act.put, List.setIfInBounds_toArray, List.set_cons_zero, List.set_cons_succ, i64_w, i32_w]
          rfl
        refine take_ (i := 5) (N := some 30) (v := ?_) (a' := ?_) #[true, true, true, true, true, true, false, false, true, true, true, true, true, false, false, false, false, true, true, true, true, true, false, false, false, false, true, true, true, true, true, false, false, false, false, false] rfl rfl (by kernel_rfl) (fun _ _ _ h => h) (Or.inl ⟨by rfl, ?_⟩) hHeld ?_ ?_
        rotate_left
        · rintro w' ⟨s0, s1, s2, s3⟩
          go_simp
          with_reducible rfl
        rotate_left
        · simp only [Act.put, List.setIfInBounds_toArray, List.set_cons_zero, List.set_cons_succ, i64_w, i32_w]
          rfl
        refine pure_ (i := 6) (N := some 31) (v := ?_) (a' := ?_) #[true, true, true, true, true, true, true, false, true, true, true, true, true, false, false, false, false, true, true, true, true, true, false, false, false, false, true, true, true, true, true, false, false, false, false, false] rfl rfl (by kernel_rfl) (fun _ _ _ h => h) (Or.inl ⟨by rfl, ?_⟩) ?_ ?_
        rotate_left
        · intro w'
          go_simp
          with_reducible rfl
        rotate_left
        · simp only [Act.put, List.setIfInBounds_toArray, List.set_cons_zero, List.set_cons_succ, i64_w, i32_w]
          rfl
        refine pure_ (i := 7) (N := some 32) (v := ?_) (a' := ?_) #[true, true, true, true, true, true, true, true, true, true, true, true, true, false, false, false, false, true, true, true, true, true, false, false, false, false, true, true, true, true, true, false, false, false, false, false] rfl rfl (by kernel_rfl) (fun _ _ _ h => h) (Or.inl ⟨by rfl, ?_⟩) ?_ ?_
        rotate_left
        · intro w'
          go_simp
          with_reducible rfl
        rotate_left
        · simp only [Act.put, List.setIfInBounds_toArray, List.set_cons_zero, List.set_cons_succ, i64_w, i32_w]
          rfl
        refine take_ (i := 13) (N := some 38) (v := ?_) (a' := ?_) #[true, true, true, true, true, true, true, true, true, true, true, true, true, true, false, false, false, true, true, true, true, true, false, false, false, false, true, true, true, true, true, false, false, false, false, false] rfl rfl (by kernel_rfl) (fun _ _ _ h => h) (Or.inl ⟨by rfl, ?_⟩) hHeld ?_ ?_
        rotate_left
        · rintro w' ⟨s0, s1, s2, s3⟩
          go_simp
          with_reducible rfl
        rotate_left
        · simp only [Act.put, List.setIfInBounds_toArray, List.set_cons_zero, List.set_cons_succ, i64_w, i32_w]
          rfl
        refine pure_ (i := 14) (N := some 39) (v := ?_) (a' := ?_) #[true, true, true, true, true, true, true, true, true, true, true, true, true, true, true, false, false, true, true, true, true, true, false, false, false, false, true, true, true, true, true, false, false, false, false, false] rfl rfl (by kernel_rfl) (fun _ _ _ h => h) (Or.inl ⟨by rfl, ?_⟩) ?_ ?_
        rotate_left
        · intro w'
          go_simp
          with_reducible rfl
        rotate_left
        · simp only [Act.put, List.setIfInBounds_toArray, List.set_cons_zero, List.set_cons_succ, i64_w, i32_w]
          rfl
        refine pure_ (i := 15) (N := some 40) (v := ?_) (a' := ?_) #[true, true, true, true, true, true, true, true, true, true, true, true, true, true, true, true, false, true, true, true, true, true, false, false, false, false, true, true, true, true, true, false, false, false, false, false] rfl rfl (by kernel_rfl) (fun _ _ _ h => h) (Or.inl ⟨by rfl, ?_⟩) ?_ ?_
        rotate_left
        · intro w'
          go_simp
          with_reducible rfl
        rotate_left
        · simp only [Act.put, List.setIfInBounds_toArray, List.set_cons_zero, List.set_cons_succ, i64_w, i32_w]
          rfl
        refine pure_ (i := 16) (N := some 41) (v := ?_) (a' := ?_) #[true, true, true, true, true, true, true, true, true, true, true, true, true, true, true, true, true, true, true, true, true, true, false, false, false, false, true, true, true, true, true, false, false, false, false, false] rfl rfl (by kernel_rfl) (fun _ _ _ h => h) (Or.inl ⟨by rfl, ?_⟩) ?_ ?_
        rotate_left
        · intro w'
          go_simp
          with_reducible rfl
        rotate_left
        · simp only [Act.put, List.setIfInBounds_toArray, List.set_cons_zero, List.set_cons_succ, i64_w, i32_w]
          rfl
        refine take_ (i := 22) (N := some 47) (v := ?_) (a' := ?_) #[true, true, true, true, true, true, true, true, true, true, true, true, true, true, true, true, true, true, true, true, true, true, true, false, false, false, true, true, true, true, true, false, false, false, false, false] rfl rfl (by kernel_rfl) (fun _ _ _ h => h) (Or.inl ⟨by rfl, ?_⟩) hHeld ?_ ?_
        rotate_left
        · rintro w' ⟨s0, s1, s2, s3⟩
          go_simp
          with_reducible rfl
        rotate_left
        · simp only [Act.put, List.setIfInBounds_toArray, List.set_cons_zero, List.set_cons_succ, i64_w, i32_w]
          rfl
        refine pure_ (i := 23) (N := some 48) (v := ?_) (a' := ?_) #[true, true, true, true, true, true, true, true, true, true, true, true, true, true, true, true, true, true, true, true, true, true, true, true, false, false, true, true, true, true, true, false, false, false, false, false] rfl rfl (by kernel_rfl) (fun _ _ _ h => h) (Or.inl ⟨by rfl, ?_⟩) ?_ ?_
        rotate_left
        · intro w'
          go_simp
          with_reducible rfl
        rotate_left
        · simp only [Act.put, List.setIfInBounds_toArray, List.set_cons_zero, List.set_cons_succ, i64_w, i32_w]
          rfl
        refine pure_ (i := 24) (N := some 49) (v := ?_) (a' := ?_) #[true, true, true, true, true, true, true, true, true, true, true, true, true, true, true, true, true, true, true, true, true, true, true, true, true, false, true, true, true, true, true, false, false, false, false, false] rfl rfl (by kernel_rfl) (fun _ _ _ h => h) (Or.inl ⟨by rfl, ?_⟩) ?_ ?_
        rotate_left
        · intro w'
          go_simp
          with_reducible rfl
        rotate_left
        · simp only [Act.put, List.setIfInBounds_toArray, List.set_cons_zero, List.set_cons_succ, i64_w, i32_w]
          rfl
        refine pure_ (i := 25) (N := some 50) (v := ?_) (a' := ?_) #[true, true, true, true, true, true, true, true, true, true, true, true, true, true, true, true, true, true, true, true, true, true, true, true, true, true, true, true, true, true, true, false, false, false, false, false] rfl rfl (by kernel_rfl) (fun _ _ _ h => h) (Or.inl ⟨by rfl, ?_⟩) ?_ ?_
        rotate_left
        · intro w'
          go_simp
          with_reducible rfl
        rotate_left
        · simp only [Act.put, List.setIfInBounds_toArray, List.set_cons_zero, List.set_cons_succ, i64_w, i32_w]
          rfl
        refine take_ (i := 31) (N := some 56) (v := ?_) (a' := ?_) #[true, true, true, true, true, true, true, true, true, true, true, true, true, true, true, true, true, true, true, true, true, true, true, true, true, true, true, true, true, true, true, true, false, false, false, false] rfl rfl (by kernel_rfl) (fun _ _ _ h => h) (Or.inl ⟨by rfl, ?_⟩) hHeld ?_ ?_
        rotate_left
        · rintro w' ⟨s0, s1, s2, s3⟩
          go_simp
          with_reducible rfl
        rotate_left
        · simp only [Act.put, List.setIfInBounds_toArray, List.set_cons_zero, List.set_cons_succ, i64_w, i32_w]
          rfl
        refine pure_ (i := 32) (N := some 57) (v := ?_) (a' := ?_) #[true, true, true, true, true, true, true, true, true, true, true, true, true, true, true, true, true, true, true, true, true, true, true, true, true, true, true, true, true, true, true, true, true, false, false, false] rfl rfl (by kernel_rfl) (fun _ _ _ h => h) (Or.inl ⟨by rfl, ?_⟩) ?_ ?_
        rotate_left
        · intro w'
          go_simp
          with_reducible rfl
        rotate_left
        · simp only [Act.put, List.setIfInBounds_toArray, List.set_cons_zero, List.set_cons_succ, i64_w, i32_w]
          rfl
        refine pure_ (i := 33) (N := some 58) (v := ?_) (a' := ?_) #[true, true, true, true, true, true, true, true, true, true, true, true, true, true, true, true, true, true, true, true, true, true, true, true, true, true, true, true, true, true, true, true, true, true, false, false] rfl rfl (by kernel_rfl) (fun _ _ _ h => h) (Or.inl ⟨by rfl, ?_⟩) ?_ ?_
        rotate_left
        · intro w'
          go_simp
          with_reducible rfl
        rotate_left
        · simp only [Act.put, List.setIfInBounds_toArray, List.set_cons_zero, List.set_cons_succ, i64_w, i32_w]
          rfl
        refine pure_ (i := 34) (N := some 59) (v := ?_) (a' := ?_) #[true, true, true, true, true, true, true, true, true, true, true, true, true, true, true, true, true, true, true, true, true, true, true, true, true, true, true, true, true, true, true, true, true, true, true, false] rfl rfl (by kernel_rfl) (fun _ _ _ h => h) (Or.inl ⟨by rfl, ?_⟩) ?_ ?_
        rotate_left
        · intro w'
          go_simp
          with_reducible rfl
        rotate_left
        · simp only [Act.put, List.setIfInBounds_toArray, List.set_cons_zero, List.set_cons_succ, i64_w, i32_w]
          rfl
        refine last_ (i := 35) (N := none) #[true, true, true, true, true, true, true, true, true, true, true, true, true, true, true, true, true, true, true, true, true, true, true, true, true, true, true, true, true, true, true, true, true, true, true, true] rfl rfl (by kernel_rfl) (by decide) (fun K hK => ?_)
        refine skip_ (w1 := ?_) (by rfl) rfl ?_ ?_
        rotate_left
        · go_simp
          rfl
        refine hK.out _ _ ?_
        clear hK K
        refine done_ (by kernel_rfl) ?_
        go_wp2
        go_roundw
        case rel => exact ⟨k + 1, by omega, by go_num, by rw [Ws, HX.out]; exact (HS.out.setW k _).drew⟩
        case measure => simp [intOf]; omega
    · obtain rfl : k = 16 := by omega
      clear hm
      go_wp2
      go_loopw [9, 10, 11] (fun v _ _ wr => ∃ k : Nat, 16 ≤ k ∧ k ≤ 64 ∧ v = .int .i64 (k : Nat) ∧ Blk w wr w.heap.size h K z8 (Ws m k)) (fun v _ _ _ => 64 - (intOf v).toNat)
      case atStart => exact ⟨16, Nat.le_refl _, by omega, rfl, hS⟩
      case round =>
        clear hS
        obtain ⟨k, hk0, hk, rfl, hS⟩ := hrel
        by_cases hlt : k < 64
        · as_aux_lemma =>
            obtain ⟨a15, h15⟩ : ∃ a, a + 15 = k := ⟨k - 15, by omega⟩
            obtain ⟨a16, h16⟩ : ∃ a, a + 16 = k := ⟨k - 16, by omega⟩
            obtain ⟨a7, h7⟩ : ∃ a, a + 7 = k := ⟨k - 7, by omega⟩
            obtain ⟨a2, h2⟩ : ∃ a, a + 2 = k := ⟨k - 2, by omega⟩
            have w15 : wrap64 ((k : Int) - 15) = (a15 : Int) := by unfold wrap64; omega
            have v15 : IntKind.i64.wrap ((k : Int) - 15) = (a15 : Int) := by rw [IntKind.wrap_i64]; omega
            have w16 : wrap64 ((k : Int) - 16) = (a16 : Int) := by unfold wrap64; omega
            have v16 : IntKind.i64.wrap ((k : Int) - 16) = (a16 : Int) := by rw [IntKind.wrap_i64]; omega
            have w7 : wrap64 ((k : Int) - 7) = (a7 : Int) := by unfold wrap64; omega
            have v7 : IntKind.i64.wrap ((k : Int) - 7) = (a7 : Int) := by rw [IntKind.wrap_i64]; omega
            have w2 : wrap64 ((k : Int) - 2) = (a2 : Int) := by unfold wrap64; omega
            have v2 : IntKind.i64.wrap ((k : Int) - 2) = (a2 : Int) := by rw [IntKind.wrap_i64]; omega
            have hcw := at32_cell hS.bw (i := k) (by rw [Ws_length]; omega)
            have hc15 := at32_cell hS.bw (i := a15) (by rw [Ws_length]; omega)
            have hc16 := at32_cell hS.bw (i := a16) (by rw [Ws_length]; omega)
            have hc7 := at32_cell hS.bw (i := a7) (by rw [Ws_length]; omega)
            have hc2 := at32_cell hS.bw (i := a2) (by rw [Ws_length]; omega)
            have HX : Hid (word m (Ws m k) k = nx (at32 (Ws m k) a16) (at32 (Ws m k) a15) (at32 (Ws m k) a7) (at32 (Ws m k) a2)) := by
              have e : word m (Ws m k) k = _ := if_neg (by omega)
              rw [e]
              rw [show k - 16 = a16 by omega, show k - 15 = a15 by omega, show k - 7 = a7 by omega, show k - 2 = a2 by omega]
              rfl
            have hfr := frozen_of_row wr _ k _ _ hS.bw
            have q1 : (0 : Int) ≤ (k : Int) := by omega
            have q2 : (k : Int) < 64 := by omega
            have n15 : (0 : Int) ≤ (a15 : Int) := by omega
            have n16 : (0 : Int) ≤ (a16 : Int) := by omega
            have n7 : (0 : Int) ≤ (a7 : Int) := by omega
            have n2 : (0 : Int) ≤ (a2 : Int) := by omega
            have p15 : (a15 : Int) < 64 := by omega
            have p16 : (a16 : Int) < 64 := by omega
            have p7 : (a7 : Int) < 64 := by omega
            have p2 : (a2 : Int) < 64 := by omega
            have HS := Aside0.mk hS
            clear hS h15 h16 h7 h2
            generalize at32 (Ws m k) k = xw at *
            generalize at32 (Ws m k) a15 = x15 at *
            generalize at32 (Ws m k) a16 = x16 at *
            generalize at32 (Ws m k) a7 = x7 at *
            generalize at32 (Ws m k) a2 = x2 at *
            have T7 := Aside0.mk (turn28 7 x15 (by decide))
            have T18 := Aside0.mk (turn28 18 x15 (by decide))
            have T17 := Aside0.mk (turn28 17 x2 (by decide))
            have T19 := Aside0.mk (turn28 19 x2 (by decide))
            go_wp2
            go_quiet (first | (go_at_call 28; with_reducible exact quiet_drawn T7.out) | (go_at_call 28; with_reducible exact quiet_drawn T18.out))
            replace hcw := (show (wr.drewN nq).cell? _ = _ from hcw)
            replace hc16 := (show (wr.drewN nq).cell? _ = _ from hc16)
            replace hc7 := (show (wr.drewN nq).cell? _ = _ from hc7)
            replace hc2 := (show (wr.drewN nq).cell? _ = _ from hc2)
            replace hfr := (show (wr.drewN nq).frozen? _ = _ from hfr)
            replace HS := Aside0.mk (HS.out.drewN nq)
            clear T7 T18 w15 v15 n15 p15 hc15
            generalize wr.drewN nq = wr1 at *
            go_wp2
            go_quiet (first | (go_at_call 28; with_reducible exact quiet_drawn T17.out) | (go_at_call 28; with_reducible exact quiet_drawn T19.out))
            replace hcw := (show (wr1.drewN nq).cell? _ = _ from hcw)
            replace hc16 := (show (wr1.drewN nq).cell? _ = _ from hc16)
            replace hc7 := (show (wr1.drewN nq).cell? _ = _ from hc7)
            replace hfr := (show (wr1.drewN nq).frozen? _ = _ from hfr)
            replace HS := Aside0.mk (HS.out.drewN nq)
            clear T17 T19 hc2
            generalize wr1.drewN nq = wr2 at *
            go_wp2
            refine start_ (n := 16) (S := fun w' => w'.cell? ⟨w.heap.size + 1 + 1 + 1, a16, none⟩ = some (Value.int IntKind.u32 x16) ∧ w'.cell? ⟨w.heap.size + 1 + 1 + 1, a7, none⟩ = some (Value.int IntKind.u32 x7)) (ds := [15]) #[false, false, false, false, false, false, false, false, false, false, false, false, false, false, false, false] (by kernel_rfl) rfl rfl ⟨hc16, hc7⟩ (fun hHeld => ?_)
            refine pure_ (i := 0) (N := some 98) (v := ?_) (a' := ?_) #[true, false, false, false, false, false, false, false, false, false, false, false, false, false, false, false] rfl rfl (by kernel_rfl) (fun _ _ _ h => h) (Or.inl ⟨by rfl, ?_⟩) ?_ ?_
            rotate_left
            · intro w'
              go_simp
              with_reducible rfl
            rotate_left
            · simp only [Act.put, List.setIfInBounds_toArray, List.set_cons_zero, List.set_cons_succ, i64_w, i32_w]
              rfl
            refine pure_ (i := 1) (N := some 99) (v := ?_) (a' := ?_) #[true, true, false, false, false, false, false, false, false, false, false, false, false, false, false, false] rfl rfl (by kernel_rfl) (fun _ _ _ h => h) (Or.inl ⟨by rfl, ?_⟩) ?_ ?_
            rotate_left
            · intro w'
              go_simp
              with_reducible rfl
            rotate_left
            · simp only [Act.put, List.setIfInBounds_toArray, List.set_cons_zero, List.set_cons_succ, i64_w, i32_w]
              rfl
            refine pure_ (i := 2) (N := some 100) (v := ?_) (a' := ?_) #[true, true, true, false, false, false, false, false, false, false, false, false, false, false, false, false] rfl rfl (by kernel_rfl) (fun _ _ _ h => h) (Or.inl ⟨by rfl, ?_⟩) ?_ ?_
            rotate_left
            · intro w'
              go_simp
              with_reducible rfl
            rotate_left
            · simp only [Act.put, List.setIfInBounds_toArray, List.set_cons_zero, List.set_cons_succ, i64_w, i32_w]
              rfl
            refine pure_ (i := 3) (N := some 101) (v := ?_) (a' := ?_) #[true, true, true, true, false, false, false, false, false, false, false, false, false, false, false, false] rfl rfl (by kernel_rfl) (fun _ _ _ h => h) (Or.inl ⟨by rfl, ?_⟩) ?_ ?_
            rotate_left
            · intro w'
              go_simp
              with_reducible rfl
            rotate_left
            · simp only [Act.put, List.setIfInBounds_toArray, List.set_cons_zero, List.set_cons_succ, i64_w, i32_w]
              rfl
            refine pure_ (i := 5) (N := some 103) (v := ?_) (a' := ?_) #[true, true, true, true, false, true, false, false, false, false, false, false, false, false, false, false] rfl rfl (by kernel_rfl) (fun _ _ _ h => h) (Or.inl ⟨by rfl, ?_⟩) ?_ ?_
            rotate_left
            · intro w'
              go_simp
              with_reducible rfl
            rotate_left
            · simp only [Act.put, List.setIfInBounds_toArray, List.set_cons_zero, List.set_cons_succ, i64_w, i32_w]
              rfl
            refine pure_ (i := 7) (N := some 105) (v := ?_) (a' := ?_) #[true, true, true, true, false, true, false, true, false, false, false, false, false, false, false, false] rfl rfl (by kernel_rfl) (fun _ _ _ h => h) (Or.inl ⟨by rfl, ?_⟩) ?_ ?_
            rotate_left
            · intro w'
              go_simp
              with_reducible rfl
            rotate_left
            · simp only [Act.put, List.setIfInBounds_toArray, List.set_cons_zero, List.set_cons_succ, i64_w, i32_w]
              rfl
            refine pure_ (i := 8) (N := some 106) (v := ?_) (a' := ?_) #[true, true, true, true, false, true, false, true, true, false, false, false, false, false, false, false] rfl rfl (by kernel_rfl) (fun _ _ _ h => h) (Or.inl ⟨by rfl, ?_⟩) ?_ ?_
            rotate_left
            · intro w'
              go_simp
              with_reducible rfl
            rotate_left
            · simp only [Act.put, List.setIfInBounds_toArray, List.set_cons_zero, List.set_cons_succ, i64_w, i32_w]
              rfl
            refine pure_ (i := 9) (N := some 107) (v := ?_) (a' := ?_) #[true, true, true, true, false, true, false, true, true, true, false, false, false, false, false, false] rfl rfl (by kernel_rfl) (fun _ _ _ h => h) (Or.inl ⟨by rfl, ?_⟩) ?_ ?_
            rotate_left
            · intro w'
              go_simp
              with_reducible rfl
            rotate_left
            · simp only [Act.put, List.setIfInBounds_toArray, List.set_cons_zero, List.set_cons_succ, i64_w, i32_w]
              rfl
            refine pure_ (i := 12) (N := some 110) (v := ?_) (a' := ?_) #[true, true, true, true, false, true, false, true, true, true, false, false, true, false, false, false] rfl rfl (by kernel_rfl) (fun _ _ _ h => h) (Or.inl ⟨by rfl, ?_⟩) ?_ ?_
            rotate_left
            · intro w'
              go_simp
              with_reducible rfl
            rotate_left
            · simp only [Act.put, List.setIfInBounds_toArray, List.set_cons_zero, List.set_cons_succ, i64_w, i32_w]
              rfl
            refine take_ (i := 4) (N := some 102) (v := ?_) (a' := ?_) #[true, true, true, true, true, true, false, true, true, true, false, false, true, false, false, false] rfl rfl (by kernel_rfl) (fun _ _ _ h => h) (Or.inl ⟨by rfl, ?_⟩) hHeld ?_ ?_
            rotate_left
            · rintro w' ⟨s0, s1⟩
              go_simp
              with_reducible rfl
            rotate_left
            · simp only [Act.put, List.setIfInBounds_toArray, List.set_cons_zero, List.set_cons_succ, i64_w, i32_w]
              rfl
            refine pure_ (i := 6) (N := some 104) (v := ?_) (a' := ?_) #[true, true, true, true, true, true, true, true, true, true, false, false, true, false, false, false] rfl rfl (by kernel_rfl) (fun _ _ _ h => h) (Or.inl ⟨by rfl, ?_⟩) ?_ ?_
            rotate_left
            · intro w'
              go_simp
              with_reducible rfl
            rotate_left
            · simp only [Act.put, List.setIfInBounds_toArray, List.set_cons_zero, List.set_cons_succ, i64_w, i32_w]
              rfl
            refine take_ (i := 10) (N := some 108) (v := ?_) (a' := ?_) #[true, true, true, true, true, true, true, true, true, true, true, false, true, false, false, false] rfl rfl (by kernel_rfl) (fun _ _ _ h => h) (Or.inl ⟨by rfl, ?_⟩) hHeld ?_ ?_
            rotate_left
            · rintro w' ⟨s0, s1⟩
              go_simp
              with_reducible rfl
            rotate_left
            · simp only [Act.put, List.setIfInBounds_toArray, List.set_cons_zero, List.set_cons_succ, i64_w, i32_w]
              rfl
            refine pure_ (i := 11) (N := some 109) (v := ?_) (a' := ?_) #[true, true, true, true, true, true, true, true, true, true, true, true, true, false, false, false] rfl rfl (by kernel_rfl) (fun _ _ _ h => h) (Or.inl ⟨by rfl, ?_⟩) ?_ ?_
            rotate_left
            · intro w'
              go_simp
              with_reducible rfl
            rotate_left
            · simp only [Act.put, List.setIfInBounds_toArray, List.set_cons_zero, List.set_cons_succ, i64_w, i32_w]
              rfl
            refine pure_ (i := 13) (N := some 111) (v := ?_) (a' := ?_) #[true, true, true, true, true, true, true, true, true, true, true, true, true, true, false, false] rfl rfl (by kernel_rfl) (fun _ _ _ h => h) (Or.inl ⟨by rfl, ?_⟩) ?_ ?_
            rotate_left
            · intro w'
              go_simp
              with_reducible rfl
            rotate_left
            · simp only [Act.put, List.setIfInBounds_toArray, List.set_cons_zero, List.set_cons_succ, i64_w, i32_w]
              rfl
            refine pure_ (i := 14) (N := some 112) (v := ?_) (a' := ?_) #[true, true, true, true, true, true, true, true, true, true, true, true, true, true, true, false] rfl rfl (by kernel_rfl) (fun _ _ _ h => h) (Or.inl ⟨by rfl, ?_⟩) ?_ ?_
            rotate_left
            · intro w'
              go_simp
              with_reducible rfl
            rotate_left
            · simp only [Act.put, List.setIfInBounds_toArray, List.set_cons_zero, List.set_cons_succ, i64_w, i32_w]
              rfl
            refine last_ (i := 15) (N := none) #[true, true, true, true, true, true, true, true, true, true, true, true, true, true, true, true] rfl rfl (by kernel_rfl) (by decide) (fun K hK => ?_)
            refine skip_ (w1 := ?_) (by rfl) rfl ?_ ?_
            rotate_left
            · go_simp
              rfl
            refine hK.out _ _ ?_
            clear hK K
            refine done_ (by kernel_rfl) ?_
            go_wp2
            go_roundw
            case rel => exact ⟨k + 1, by omega, by omega, by go_num, by rw [Ws, HX.out]; exact (HS.out.setW k _).drew⟩
            case measure => simp [intOf]; omega
        · obtain rfl : k = 64 := by omega
          have hg : w.heap.size + 1 + 1 + 1 < wr.heap.size := heap_lt hS.bw
          have HR : Hid (wr.heap[w.heap.size]? = some (.cells (u32s h) 49 (0, 0))) := hS.bh
          have HI : Hid (∀ l : List Int, l.length = 8 → (Try.prog.info? 49).map (·.size) = some (u32s l).size) := fun l hl => by rw [u32s_size, hl]; exact zero49.2
          have HS := Aside0.mk hS
          clear hS
          go_wp2_with (first
            | (refine wpList_load_row rfl 49 (.tmp 3) rfl w.heap.size rfl 49 (u32s h) (0, 0) _ HR.out Try.underlying49 rfl (HI.out h hh) ?_)
            | (refine step_alloc rfl 49 rfl (u32s z8) zero49.1 ?_)
            | (refine wpList_store_row rfl 49 (.tmp 12) (.tmp 113) rfl wr.heap.size (u32s h) rfl rfl 49 (u32s z8) (blk_new wr _) (HI.out h hh) (by rw [u32s_size, u32s_size, hh]; rfl) (u32s_one h) ?_; rw [World.setRow_alloc_new]))
          replace HS := Aside0.mk (show Blk w (wr.alloc (.cells (u32s h) 49)) w.heap.size h K z8 (Ws m 64) from ⟨HS.out.below.alloc (by omega) _, blkalloc HS.out.bh _, blkalloc HS.out.bk _, blkalloc HS.out.br _, blkalloc HS.out.bw _⟩)
          have HV := blk_new wr (.cells (u32s h) 49)
          clear HR
          have HC := Aside0.mk (show comp h K m = As h (Vs h K (Ws m 64) 64) 8 from rfl)
          have hWl : (Ws m 64).length = 64 := Ws_length m 64
          generalize Ws m 64 = W at *
          generalize wr.alloc (.cells (u32s h) 49) = w1 at *
          generalize wr.heap.size = g at *
          go_loopw [13, 14, 15, 16, 17, 18, 19] (fun v _ _ _ _ _ _ wr => ∃ k : Nat, k ≤ 64 ∧ v = .int .i64 (k : Nat) ∧ Blk w wr w.heap.size h K z8 W ∧ wr.heap[g]? = some (.cells (u32s (Vs h K W k)) 49 (0, 0))) (fun v _ _ _ _ _ _ _ => 64 - (intOf v).toNat)
          case atStart => exact ⟨0, by omega, rfl, HS.out, HV⟩
          case round =>
            clear HS HV
            obtain ⟨k, hk, rfl, hS, hV⟩ := hrel
            by_cases hlt : k < 64
            · have hvl := Vs_length h K W hh k
              have hcW := at32_cell hS.bw (i := k) (by omega)
              have hcK := at32_cell hS.bk (i := k) (by omega)
              have hc0 := at32_cell hV (i := 0) (by omega)
              have hc1 := at32_cell hV (i := 1) (by omega)
              have hc2 := at32_cell hV (i := 2) (by omega)
              have hc3 := at32_cell hV (i := 3) (by omega)
              have hc4 := at32_cell hV (i := 4) (by omega)
              have hc5 := at32_cell hV (i := 5) (by omega)
              have hc6 := at32_cell hV (i := 6) (by omega)
              have hc7 := at32_cell hV (i := 7) (by omega)
              have HX := Aside0.mk (show Vs h K W (k + 1) = rnd (Vs h K W k) (at32 K k) (at32 W k) from rfl)
              generalize Vs h K W k = V at *
              have HS := Aside0.mk hS
              have HV := Aside0.mk hV
              clear hS hV
              have q1 : (0 : Int) ≤ (k : Int) := by omega
              have q2 : (k : Int) < 64 := by omega
              generalize at32 W k = xw at *
              generalize at32 K k = xk at *
              obtain ⟨v0, hv0⟩ : ∃ x, at32 V 0 = x := ⟨_, rfl⟩
              obtain ⟨v1, hv1⟩ : ∃ x, at32 V 1 = x := ⟨_, rfl⟩
              obtain ⟨v2, hv2⟩ : ∃ x, at32 V 2 = x := ⟨_, rfl⟩
              obtain ⟨v3, hv3⟩ : ∃ x, at32 V 3 = x := ⟨_, rfl⟩
              obtain ⟨v4, hv4⟩ : ∃ x, at32 V 4 = x := ⟨_, rfl⟩
              obtain ⟨v5, hv5⟩ : ∃ x, at32 V 5 = x := ⟨_, rfl⟩
              obtain ⟨v6, hv6⟩ : ∃ x, at32 V 6 = x := ⟨_, rfl⟩
              obtain ⟨v7, hv7⟩ : ∃ x, at32 V 7 = x := ⟨_, rfl⟩
              rw [hv0] at hc0
              rw [hv1] at hc1
              rw [hv2] at hc2
              rw [hv3] at hc3
              rw [hv4] at hc4
              rw [hv5] at hc5
              rw [hv6] at hc6
              rw [hv7] at hc7
              have HD := Aside0.mk (And.intro hv0 (And.intro hv1 (And.intro hv2 (And.intro hv3 (And.intro hv4 (And.intro hv5 (And.intro hv6 hv7)))))))
              clear hv0 hv1 hv2 hv3 hv4 hv5 hv6 hv7
              have T6 := Aside0.mk (turn28 6 v4 (by decide))
              have T11 := Aside0.mk (turn28 11 v4 (by decide))
              have T25 := Aside0.mk (turn28 25 v4 (by decide))
              have T2 := Aside0.mk (turn28 2 v0 (by decide))
              have T13 := Aside0.mk (turn28 13 v0 (by decide))
              have T22 := Aside0.mk (turn28 22 v0 (by decide))
              go_wp2
              go_quiet (first | (go_at_call 28; with_reducible exact quiet_drawn T6.out) | (go_at_call 28; with_reducible exact quiet_drawn T11.out) | (go_at_call 28; with_reducible exact quiet_drawn T25.out))
              replace hc0 := (show (wr.drewN nq).cell? _ = _ from hc0)
              replace hc1 := (show (wr.drewN nq).cell? _ = _ from hc1)
              replace hc2 := (show (wr.drewN nq).cell? _ = _ from hc2)
              replace hc3 := (show (wr.drewN nq).cell? _ = _ from hc3)
              replace hc4 := (show (wr.drewN nq).cell? _ = _ from hc4)
              replace hc5 := (show (wr.drewN nq).cell? _ = _ from hc5)
              replace hc6 := (show (wr.drewN nq).cell? _ = _ from hc6)
              replace hc7 := (show (wr.drewN nq).cell? _ = _ from hc7)
              replace hcW := (show (wr.drewN nq).cell? _ = _ from hcW)
              replace hcK := (show (wr.drewN nq).cell? _ = _ from hcK)
              replace HS := Aside0.mk (HS.out.drewN nq)
              replace HV := Aside0.mk (show (wr.drewN nq).heap[g]? = _ from HV.out)
              clear T6 T11 T25
              generalize wr.drewN nq = wr1 at *
              go_wp2
              go_quiet (fail)
              replace hc0 := (show (wr1.drewN nq).cell? _ = _ from hc0)
              replace hc1 := (show (wr1.drewN nq).cell? _ = _ from hc1)
              replace hc2 := (show (wr1.drewN nq).cell? _ = _ from hc2)
              replace hc3 := (show (wr1.drewN nq).cell? _ = _ from hc3)
              replace hc4 := (show (wr1.drewN nq).cell? _ = _ from hc4)
              replace hc5 := (show (wr1.drewN nq).cell? _ = _ from hc5)
              replace hc6 := (show (wr1.drewN nq).cell? _ = _ from hc6)
              replace hc7 := (show (wr1.drewN nq).cell? _ = _ from hc7)
              replace hcW := (show (wr1.drewN nq).cell? _ = _ from hcW)
              replace hcK := (show (wr1.drewN nq).cell? _ = _ from hcK)
              replace HS := Aside0.mk (HS.out.drewN nq)
              replace HV := Aside0.mk (show (wr1.drewN nq).heap[g]? = _ from HV.out)
              generalize wr1.drewN nq = wr2 at *
              go_wp2
              go_quiet (first | (go_at_call 28; with_reducible exact quiet_drawn T2.out) | (go_at_call 28; with_reducible exact quiet_drawn T13.out) | (go_at_call 28; with_reducible exact quiet_drawn T22.out))
              replace hc0 := (show (wr2.drewN nq).cell? _ = _ from hc0)
              replace hc1 := (show (wr2.drewN nq).cell? _ = _ from hc1)
              replace hc2 := (show (wr2.drewN nq).cell? _ = _ from hc2)
              replace hc3 := (show (wr2.drewN nq).cell? _ = _ from hc3)
              replace hc4 := (show (wr2.drewN nq).cell? _ = _ from hc4)
              replace hc5 := (show (wr2.drewN nq).cell? _ = _ from hc5)
              replace hc6 := (show (wr2.drewN nq).cell? _ = _ from hc6)
              replace hc7 := (show (wr2.drewN nq).cell? _ = _ from hc7)
              replace hcW := (show (wr2.drewN nq).cell? _ = _ from hcW)
              replace hcK := (show (wr2.drewN nq).cell? _ = _ from hcK)
              replace HS := Aside0.mk (HS.out.drewN nq)
              replace HV := Aside0.mk (show (wr2.drewN nq).heap[g]? = _ from HV.out)
              clear T2 T13 T22
              generalize wr2.drewN nq = wr3 at *
              go_wp2_with (first
                | ((with_reducible refine gate_store (t := 49) (p := 12) (v := .tmp 205) rfl ?_); refine wpList_store_row rfl 49 (.tmp 12) (.tmp 205) rfl g (u32s [_, _, _, _, _, _, _, _]) rfl rfl 49 (u32s V) HV.out zero49.2 (by rw [u32s_size, hvl]; rfl) (u32s_one _) ?_))
              go_roundw
              case rel => exact ⟨k + 1, by omega, by go_num, HS.out.setRow hg _, by rw [HX.out, rnd_eq xk xw HD.out]; exact setRow_heap wr3 g _ _ 49 _ HV.out⟩
              case measure => simp [intOf]; omega
            · obtain rfl : k = 64 := by omega
              have hVl := Vs_length h K W hh 64
              generalize Vs h K W 64 = V at *
              clear hlt hk
              have HI2 := Aside0.mk HI
              clear HI
              go_wp2
              go_loopw [20] (fun v wr => ∃ k : Nat, k ≤ 8 ∧ v = .int .i64 (k : Nat) ∧ Blk w wr w.heap.size (As h V k) K z8 W ∧ wr.heap[g]? = some (.cells (u32s V) 49 (0, 0))) (fun v _ => 8 - (intOf v).toNat)
              case atStart => exact ⟨0, by omega, rfl, hS, hV⟩
              case round =>
                clear hS hV
                obtain ⟨k, hk, rfl, hS, hV⟩ := hrel
                by_cases hlt : k < 8
                · as_aux_lemma =>
                    have hAl := As_length h V k
                    have hch := at32_cell hS.bh (i := k) (by omega)
                    have hcv := at32_cell hV (i := k) (by omega)
                    have hfr := frozen_of_row wr _ k _ _ hS.bh
                    have HX := Aside0.mk (show As h V (k + 1) = (As h V k).set k (IntKind.u32.wrap (at32 (As h V k) k + at32 V k)) from rfl)
                    generalize at32 (As h V k) k = xh at *
                    generalize at32 V k = xv at *
                    have HS := Aside0.mk hS
                    have HV := Aside0.mk hV
                    have q1 : (0 : Int) ≤ (k : Int) := by omega
                    have q2 : (k : Int) < 8 := by omega
                    clear hS hV
                    go_wp2
                    refine start_ (n := 10) (S := fun w' => w'.cell? ⟨w.heap.size, k, none⟩ = some (Value.int IntKind.u32 xh) ∧ w'.cell? ⟨g, k, none⟩ = some (Value.int IntKind.u32 xv)) (ds := [9]) #[false, false, false, false, false, false, false, false, false, false] (by kernel_rfl) rfl rfl ⟨hch, hcv⟩ (fun hHeld => ?_)
                    refine pure_ (i := 0) (N := some 210) (v := ?_) (a' := ?_) #[true, false, false, false, false, false, false, false, false, false] rfl rfl (by kernel_rfl) (fun _ _ _ h => h) (Or.inl ⟨by rfl, ?_⟩) ?_ ?_
                    rotate_left
                    · intro w'
                      go_simp
                      with_reducible rfl
                    rotate_left
                    · simp only [Act.put, List.setIfInBounds_toArray, List.set_cons_zero, List.set_cons_succ, i64_w, i32_w]
                      rfl
                    refine pure_ (i := 1) (N := some 211) (v := ?_) (a' := ?_) #[true, true, false, false, false, false, false, false, false, false] rfl rfl (by kernel_rfl) (fun _ _ _ h => h) (Or.inl ⟨by rfl, ?_⟩) ?_ ?_
                    rotate_left
                    · intro w'
                      go_simp
                      with_reducible rfl
                    rotate_left
                    · simp only [Act.put, List.setIfInBounds_toArray, List.set_cons_zero, List.set_cons_succ, i64_w, i32_w]
                      rfl
                    refine pure_ (i := 2) (N := some 212) (v := ?_) (a' := ?_) #[true, true, true, false, false, false, false, false, false, false] rfl rfl (by kernel_rfl) (fun _ _ _ h => h) (Or.inl ⟨by rfl, ?_⟩) ?_ ?_
                    rotate_left
                    · intro w'
                      go_simp
                      with_reducible rfl
                    rotate_left
                    · simp only [Act.put, List.setIfInBounds_toArray, List.set_cons_zero, List.set_cons_succ, i64_w, i32_w]
                      rfl
                    refine pure_ (i := 4) (N := some 214) (v := ?_) (a' := ?_) #[true, true, true, false, true, false, false, false, false, false] rfl rfl (by kernel_rfl) (fun _ _ _ h => h) (Or.inl ⟨by rfl, ?_⟩) ?_ ?_
                    rotate_left
                    · intro w'
                      go_simp
                      with_reducible rfl
                    rotate_left
                    · simp only [Act.put, List.setIfInBounds_toArray, List.set_cons_zero, List.set_cons_succ, i64_w, i32_w]
                      rfl
                    refine pure_ (i := 5) (N := some 215) (v := ?_) (a' := ?_) #[true, true, true, false, true, true, false, false, false, false] rfl rfl (by kernel_rfl) (fun _ _ _ h => h) (Or.inl ⟨by rfl, ?_⟩) ?_ ?_
                    rotate_left
                    · intro w'
                      go_simp
                      with_reducible rfl
                    rotate_left
                    · simp only [Act.put, List.setIfInBounds_toArray, List.set_cons_zero, List.set_cons_succ, i64_w, i32_w]
                      rfl
                    refine take_ (i := 3) (N := some 213) (v := ?_) (a' := ?_) #[true, true, true, true, true, true, false, false, false, false] rfl rfl (by kernel_rfl) (fun _ _ _ h => h) (Or.inl ⟨by rfl, ?_⟩) hHeld ?_ ?_
                    rotate_left
                    · rintro w' ⟨s0, s1⟩
                      go_simp
                      with_reducible rfl
                    rotate_left
                    · simp only [Act.put, List.setIfInBounds_toArray, List.set_cons_zero, List.set_cons_succ, i64_w, i32_w]
                      rfl
                    refine take_ (i := 6) (N := some 216) (v := ?_) (a' := ?_) #[true, true, true, true, true, true, true, false, false, false] rfl rfl (by kernel_rfl) (fun _ _ _ h => h) (Or.inl ⟨by rfl, ?_⟩) hHeld ?_ ?_
                    rotate_left
                    · rintro w' ⟨s0, s1⟩
                      go_simp
                      with_reducible rfl
                    rotate_left
                    · simp only [Act.put, List.setIfInBounds_toArray, List.set_cons_zero, List.set_cons_succ, i64_w, i32_w]
                      rfl
                    refine pure_ (i := 7) (N := some 217) (v := ?_) (a' := ?_) #[true, true, true, true, true, true, true, true, false, false] rfl rfl (by kernel_rfl) (fun _ _ _ h => h) (Or.inl ⟨by rfl, ?_⟩) ?_ ?_
                    rotate_left
                    · intro w'
                      go_simp
                      with_reducible rfl
                    rotate_left
                    · simp only [Act.put, List.setIfInBounds_toArray, List.set_cons_zero, List.set_cons_succ, i64_w, i32_w]
                      rfl
                    refine pure_ (i := 8) (N := some 218) (v := ?_) (a' := ?_) #[true, true, true, true, true, true, true, true, true, false] rfl rfl (by kernel_rfl) (fun _ _ _ h => h) (Or.inl ⟨by rfl, ?_⟩) ?_ ?_
                    rotate_left
                    · intro w'
                      go_simp
                      with_reducible rfl
                    rotate_left
                    · simp only [Act.put, List.setIfInBounds_toArray, List.set_cons_zero, List.set_cons_succ, i64_w, i32_w]
                      rfl
                    refine last_ (i := 9) (N := none) #[true, true, true, true, true, true, true, true, true, true] rfl rfl (by kernel_rfl) (by decide) (fun K hK => ?_)
                    refine skip_ (w1 := ?_) (by rfl) rfl ?_ ?_
                    rotate_left
                    · go_simp
                      rfl
                    refine hK.out _ _ ?_
                    clear hK K
                    refine done_ (by kernel_rfl) ?_
                    go_wp2
                    go_roundw
                    case rel => exact ⟨k + 1, by omega, by go_num, by rw [HX.out]; exact (HS.out.setH k _).drew, blkfar HV.out (by show g ≠ w.heap.size; omega) _⟩
                    case measure => simp [intOf]; omega
                · obtain rfl : k = 8 := by omega
                  have hAl := As_length h V 8
                  generalize As h V 8 = R at *
                  have HR := Aside0.mk hS.bh
                  have HZ := Aside0.mk hS.br
                  have HB := Aside0.mk hS.below
                  clear hS hV
                  go_wp2_with (first
                    | ((with_reducible refine gate_dst (N := 219) rfl ?_); refine wpList_load_row rfl 49 (.tmp 3) rfl w.heap.size rfl 49 (u32s R) (0, 0) _ HR.out Try.underlying49 rfl (HI2.out R (by omega)) ?_)
                    | ((with_reducible refine gate_store (t := 49) (p := 6) (v := .tmp 219) rfl ?_); refine wpList_store_row rfl 49 (.tmp 6) (.tmp 219) rfl (w.heap.size + 1 + 1) (u32s R) rfl rfl 49 (u32s z8) HZ.out (HI2.out R (by omega)) (by rw [u32s_size, u32s_size, hAl, hh]; rfl) (u32s_one R) ?_))
                  (try simp only [Exit.inBlock, Exit.then])
                  refine bodyPost_ret (results_cell_row rfl _ _ (w.heap.size + 1 + 1) 49 (u32s R) (0, 0) _ rfl (setRow_heap wr _ _ _ 49 _ HZ.out) Try.underlying49 rfl (HI2.out R (by omega))) rfl ?_
                  exact ⟨by rw [HC.out], below_setRow HB.out (by omega) _⟩
end Go.Proofs.Ytcagmiglgpjcjaa.Sh
