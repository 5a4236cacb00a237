/-
  The walk of Hash.String.
-/
import Derived.Test.YtcagmiglgpjcjaaShaEq
set_option linter.unusedVariables false
set_option linter.unusedSimpArgs false
namespace Go.Proofs.Ytcagmiglgpjcjaa.Sh
open Go.RowKit Go.Proofs.YtcagmiglgpjcjaaW.PrintWords Go.Proofs.YtcagmiglgpjcjaaW.PrintLast Go.Proofs.YtcagmiglgpjcjaaW.PrintMore Go.Proofs.Ytcagmiglgpjcjaa.PSa

/-- The sixteen digits. -/
def Dg16 : ByteArray := { data := #[48, 49, 50, 51, 52, 53, 54, 55, 56, 57, 97, 98, 99, 100, 101, 102] }
def hexs (h : List Int) : Nat → List Int
  | 0 => []
  | k + 1 => hexs h k ++ [bt Dg16 (at32 h k / 16), bt Dg16 (at32 h k % 16)]
theorem hexs_length (h : List Int) : ∀ k, (hexs h k).length = 2 * k
  | 0 => rfl
  | k + 1 => by rw [hexs, List.length_append, hexs_length h k]; simp; omega
theorem index25 (h : List Int) (k : Nat) (hk : k < 32) (hh : h.length = 32) (w : World) : (Instr.index 25 (.agg (u8s h)) (.int .i64 (k : Int))).run Try.prog w = .ok (.int .u8 (at32 h k)) w := by
  obtain ⟨i5, hi5, _, hs5, _⟩ := info_parts info5
  have hg : (u8s h)[k]? = some (.int .u8 (at32 h k)) := by rw [u8s_get, at32]; simp [hh, hk]
  have q1 : (0 : Int) ≤ (k : Int) := by omega
  have q2 : (k : Int) < 32 := by omega
  have hp := run_part_plain (P := Try.prog) w plain5 (xs := u8s h) (off := k) hg
  simp [Instr.index, run_underlying Try.underlying25, asIntOf, run_sizeOf w hi5, cells5, q1, q2, hp]
  intro h
  omega
set_option maxRecDepth 100000 in
set_option maxHeartbeats 40000000 in
theorem str16 (w : World) (h : List Int) (hh : h.length = 32) (hr : ∀ i, i < 32 → 0 ≤ at32 h i ∧ at32 h i < 256) :
    Calls Try.prog 16 #[.agg (u8s h)] w fun e w' => e = .returned (.string (strOfNums (hexs h 32))) ∧ Below w.heap.size w w' := by
  have HI := Aside0.mk (show ∀ l : List Int, l.length = 32 → (Try.prog.info? 25).map (·.size) = some (u8s l).size from fun l hl => by rw [u8s_size, hl]; exact zero25.2)
  go_enter Try.func16, Try.ntmps16
  go_wp2_with (first
    | ((with_reducible refine gate_dst (N := 1) rfl ?_); refine step_box rfl 25 (.tmp 0) rfl (u8s h) rfl ?_)
    | ((with_reducible refine gate_dst (N := 6) rfl ?_); refine wpList_load_row rfl 25 (.tmp 1) rfl w.heap.size rfl 25 (u8s h) (0, 0) _ (blk_new w _) Try.underlying25 rfl (HI.out h hh) ?_))
  have hB0 := (Below.refl w.heap.size w).alloc (Nat.le_refl _) (.cells (u8s h) 25)
  generalize w.alloc (.cells (u8s h) 25) = w1 at *
  go_loopw [7, 5, 3] (fun i _ u wr => ∃ k : Nat, k ≤ 32 ∧ i = .int .i64 (k : Nat) ∧ Kd.R KBs 5 wr w.heap.size (fun _ => True) u (hexs h k) ∧ Below w.heap.size w wr) (fun i _ _ _ => 32 - (intOf i).toNat)
  case atStart => exact ⟨0, by omega, rfl, Kd.R_nil _ _ _ _ _, hB0⟩
  case round =>
    clear hB0
    obtain ⟨k, hk, rfl, hR, hB⟩ := hrel
    by_cases hlt : k < 32
    · obtain ⟨h0, h1⟩ := hr k hlt
      have hix := index25 h k hlt hh wr
      have HX := Aside0.mk (show hexs h (k + 1) = hexs h k ++ [bt Dg16 (at32 h k / 16), bt Dg16 (at32 h k % 16)] from rfl)
      have q1 : (0 : Int) ≤ (k : Int) := by omega
      have q2 : (k : Int) < 32 := by omega
      have HR := Aside0.mk hR
      have HB := Aside0.mk hB
      clear hR hB
      generalize at32 h k = x at *
      go_wp2_with ((with_reducible refine gate_dst (N := 9) rfl ?_); refine Kd.event_run (v := .int .u8 x) (w1 := wr) rfl (by go_simp; rw [hix]; rfl) ?_)
      obtain ⟨y1, hy1⟩ : ∃ y : Nat, x / 16 = (y : Int) := ⟨(x / 16).toNat, by omega⟩
      obtain ⟨y2, hy2⟩ : ∃ y : Nat, x % 16 = (y : Int) := ⟨(x % 16).toNat, by omega⟩
      have e1 : IntKind.u8.wrap (x.tdiv 16) = (y1 : Int) := by rw [IntKind.wrap_u8, Int.tdiv_eq_ediv_of_nonneg h0]; omega
      have e2 : x.tmod 16 = (y2 : Int) := by rw [Int.tmod_eq_emod_of_nonneg h0]; exact hy2
      rw [hy1, hy2] at HX
      obtain ⟨c1, hc1⟩ : ∃ c, bt Dg16 (y1 : Int) = c := ⟨_, rfl⟩
      obtain ⟨c2, hc2⟩ : ∃ c, bt Dg16 (y2 : Int) = c := ⟨_, rfl⟩
      have hd1 : ∀ h : y1 < 16, ((({ data := #[48, 49, 50, 51, 52, 53, 54, 55, 56, 57, 97, 98, 99, 100, 101, 102] } : ByteArray)[y1]'h).toNat : Int) = c1 := fun h => (bt_at Dg16 (y1 : Int) h).trans hc1
      have hd2 : ∀ h : y2 < 16, ((({ data := #[48, 49, 50, 51, 52, 53, 54, 55, 56, 57, 97, 98, 99, 100, 101, 102] } : ByteArray)[y2]'h).toNat : Int) = c2 := fun h => (bt_at Dg16 (y2 : Int) h).trans hc2
      rw [hc1, hc2] at HX
      have p1 : (0 : Int) ≤ (y1 : Int) := by omega
      have p2 : (y1 : Int) < 16 := by omega
      have p3 : (0 : Int) ≤ (y2 : Int) := by omega
      have p4 : (y2 : Int) < 16 := by omega
      have p5 : y1 < 16 := by omega
      have p6 : y2 < 16 := by omega
      clear hy1 hy2 hc1 hc2
      have HLN := Aside0.mk (show ((hexs h k).length + 2) * 1 ≤ 140737488355328 by rw [hexs_length]; omega)
      refine start_ (n := 10) (S := fun w' => True) (ds := []) #[false, false, false, false, false, false, false, false, false, false] (by kernel_rfl) rfl rfl trivial (fun hHeld => ?_)
      refine pure_ (i := 0) (N := some 10) (v := ?_) (a' := ?_) #[true, false, false, false, false, false, false, false, false, false] rfl rfl (by kernel_rfl) (fun _ _ _ h => h) (Or.inl ⟨by rfl, ?_⟩) ?_ ?_
      rotate_left
      · intro w'
        go_simp
        with_reducible rfl
      rotate_left
      · simp only [Act.put, List.setIfInBounds_toArray, List.set_cons_zero, List.set_cons_succ, i64_w, i32_w]
        rfl
      refine pure_ (i := 1) (N := some 11) (v := ?_) (a' := ?_) #[true, true, false, false, false, false, false, false, false, false] rfl rfl (by kernel_rfl) (fun _ _ _ h => h) (Or.inl ⟨by rfl, ?_⟩) ?_ ?_
      rotate_left
      · intro w'
        go_simp
        with_reducible rfl
      rotate_left
      · simp only [Act.put, List.setIfInBounds_toArray, List.set_cons_zero, List.set_cons_succ, i64_w, i32_w]
        rfl
      refine pure_ (i := 2) (N := some 12) (v := ?_) (a' := ?_) #[true, true, true, false, false, false, false, false, false, false] rfl rfl (by kernel_rfl) (fun _ _ _ h => h) (Or.inl ⟨by rfl, ?_⟩) ?_ ?_
      rotate_left
      · intro w'
        go_simp
        with_reducible rfl
      rotate_left
      · simp only [Act.put, List.setIfInBounds_toArray, List.set_cons_zero, List.set_cons_succ, i64_w, i32_w]
        rfl
      refine pure_ (i := 4) (N := some 14) (v := ?_) (a' := ?_) #[true, true, true, false, true, false, false, false, false, false] rfl rfl (by kernel_rfl) (fun _ _ _ h => h) (Or.inl ⟨by rfl, ?_⟩) ?_ ?_
      rotate_left
      · intro w'
        go_simp
        with_reducible rfl
      rotate_left
      · simp only [Act.put, List.setIfInBounds_toArray, List.set_cons_zero, List.set_cons_succ, i64_w, i32_w]
        rfl
      refine pure_ (i := 5) (N := some 15) (v := ?_) (a' := ?_) #[true, true, true, false, true, true, false, false, false, false] rfl rfl (by kernel_rfl) (fun _ _ _ h => h) (Or.inl ⟨by rfl, ?_⟩) ?_ ?_
      rotate_left
      · intro w'
        go_simp
        with_reducible rfl
      rotate_left
      · simp only [Act.put, List.setIfInBounds_toArray, List.set_cons_zero, List.set_cons_succ, i64_w, i32_w]
        rfl
      refine take_ (i := 3) (N := some 13) (v := ?_) (a' := ?_) #[true, true, true, true, true, true, false, false, false, false] rfl rfl (by kernel_rfl) (fun _ _ _ h => h) (Or.inl ⟨by rfl, ?_⟩) hHeld ?_ ?_
      rotate_left
      · intro w' _
        go_simp
        with_reducible rfl
      rotate_left
      · simp only [Act.put, List.setIfInBounds_toArray, List.set_cons_zero, List.set_cons_succ, i64_w, i32_w]
        rfl
      refine take_ (i := 6) (N := some 16) (v := ?_) (a' := ?_) #[true, true, true, true, true, true, true, false, false, false] rfl rfl (by kernel_rfl) (fun _ _ _ h => h) (Or.inl ⟨by rfl, ?_⟩) hHeld ?_ ?_
      rotate_left
      · intro w' _
        go_simp
        with_reducible rfl
      rotate_left
      · simp only [Act.put, List.setIfInBounds_toArray, List.set_cons_zero, List.set_cons_succ, i64_w, i32_w]
        rfl
      refine one_ (i := 7) (N := some 17) #[true, true, true, true, true, true, true, true, false, false] rfl rfl (by kernel_rfl) (by decide) (fun K hK => ?_)
      refine value_ (w1 := ?_) (v := ?_) (by rfl) rfl ?_ ?_
      rotate_left 2
      · go_simp
        constructor
        · rfl
        · rfl
      refine hK.out _ _ trivial (fun hHeld => ?_)
      clear hK K
      refine norm_ (a' := ?_) ?_ ?_
      rotate_left
      · show Act.put _ (some 17) _ = _
        simp only [Act.put, List.setIfInBounds_toArray, List.set_cons_zero, List.set_cons_succ, i64_w, i32_w]
        rfl
      refine one_ (i := 8) (N := some 18) #[true, true, true, true, true, true, true, true, true, false] rfl rfl (by kernel_rfl) (by decide) (fun K hK => ?_)
      refine Kd.R_append_rows_step KBs (w0 := w) w.heap.size (by rfl) (.tmp 10) (.tmp 17) 23 5 (.int .u8 0) 1 rfl Try.underlying23 info5 rfl (by decide) (by omega) u3 (hexs h k) [c1, c2] _ _ _ (fun _ => True) (fun _ => False) rfl rfl (Kd.R_alloc (Kd.R_drew HR.out) _) (C_blk (l := [c1, c2]) (blk_new _ _) (by simp)) (fun _ _ h => h) (fun _ h => h.elim) (fun _ _ => trivial) (HB.out.drew.alloc HB.out.size _) (HB.out.drew.alloc HB.out.size _).size HLN.out ?_
      intro v1 w2 ho hb hg hat
      refine hK.out _ _ trivial (fun hHeld => ?_)
      clear hK K
      refine norm_ (a' := ?_) ?_ ?_
      rotate_left
      · show Act.put _ (some 18) _ = _
        simp only [Act.put, List.setIfInBounds_toArray, List.set_cons_zero, List.set_cons_succ, i64_w, i32_w]
        rfl
      refine pure_ (i := 9) (N := some 3) (v := ?_) (a' := ?_) #[true, true, true, true, true, true, true, true, true, true] rfl rfl (by kernel_rfl) (fun _ _ _ h => h) (Or.inl ⟨by rfl, ?_⟩) ?_ ?_
      rotate_left
      · intro w'
        go_simp
        with_reducible rfl
      rotate_left
      · simp only [Act.put, List.setIfInBounds_toArray, List.set_cons_zero, List.set_cons_succ, i64_w, i32_w]
        rfl
      refine done_ (by kernel_rfl) ?_
      go_wp2
      go_roundw
      case rel => exact ⟨k + 1, by omega, by go_num, by rw [HX.out]; exact ho, hb⟩
      case measure => simp [intOf]; omega
    · obtain rfl : k = 32 := by omega
      obtain ⟨A3, c3, e3, hc3, hC3⟩ := Kd.R_reads hR
      subst e3
      have hcv := Kd.C_string (P := Try.prog) (c := c3) Try.underlying23 Try.underlying5 Try.underlying9 hC3
      have HB := Aside0.mk hB
      generalize hhx : hexs h 32 = hx at *
      have HHX := Aside0.mk hhx
      clear hhx
      clear hR hC3 hB
      go_wp2
      go_ret
      exact ⟨by rw [HHX.out]; rfl, HB.out⟩
end Go.Proofs.Ytcagmiglgpjcjaa.Sh
