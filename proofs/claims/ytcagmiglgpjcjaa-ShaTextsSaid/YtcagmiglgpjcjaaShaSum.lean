/-
  The walk of Digest.Sum.
-/
import Derived.Test.YtcagmiglgpjcjaaShaPad
set_option linter.unusedVariables false
set_option linter.unusedSimpArgs false
namespace Go.Proofs.Ytcagmiglgpjcjaa.Sh
open Go.RowKit Go.Proofs.YtcagmiglgpjcjaaW.PrintWords Go.Proofs.YtcagmiglgpjcjaaW.PrintLast Go.Proofs.YtcagmiglgpjcjaaW.PrintMore Go.Proofs.Ytcagmiglgpjcjaa.PSa

/-- A digest of the call's own, made behind the result's block. -/
structure Sg (w W : World) (g2 : Nat) (t : List Int) (z : Nat) : Prop where
  below : Below w.heap.size w W
  lo : w.heap.size < g2
  hr : W.heap[w.heap.size]? = some (.cells (u8s z32) 25 (0, 0))
  x : Dg W g2 (dH t H0) (dR t) (z : Nat)
section
variable {w W : World} {g2 : Nat} {t : List Int} {z : Nat}
theorem Sg.on {W' : World} (S : Sg w W g2 t z) (h : Below W.heap.size W W') : Sg w W' g2 t z := ⟨below_then S.below S.below.size h, S.lo, (h.block _ (heap_lt S.hr)).trans S.hr, S.x.keep h⟩
theorem Sg.alloc (S : Sg w W g2 t z) (o : Obj) : Sg w (W.alloc o) g2 t z := S.on ((Below.refl _ _).alloc (Nat.le_refl _) o)
theorem Sg.rest (S : Sg w W g2 t z) : ∃ A c, W.cell? ⟨g2, 8, none⟩ = some (.slice A (t.length % 64) c) := by
  obtain ⟨v, h1, hR⟩ := S.x.out
  obtain ⟨A, c, rfl, _, _⟩ := Kd.R_reads hR
  refine ⟨A, c, ?_⟩
  rw [cell_of_row W g2 8 _ 56 (0, 0) h1, (dig_rest (by rw [dH, absN_length]; rfl)).1, dR_length]
theorem Sg.write (S : Sg w W g2 t z) (A : Option Addr) (m : List Int) (c : Nat) (hm : KBs.C W A m.length m) (hc : m.length ≤ c) (hl : t.length + m.length ≤ 900000) (hz : z ≤ 900000) :
    Calls Try.prog 12 #[.pointer (some ⟨g2, 0, none⟩), .slice A m.length c] W fun e w' => e = .returned (.tuple #[]) ∧ Sg w w' g2 (t ++ m) (z + m.length) := by
  refine (write12 W g2 H0 t m z A c rfl S.x hm hc hl hz).mono ?_
  rintro e w' ⟨rfl, hG, hD⟩
  have hlo := S.lo
  exact ⟨rfl, ⟨S.below.grown hG S.below.size (fun k hk => by injection hk with hk; omega), S.lo, (hG.block _ (heap_lt S.hr) (by intro e; injection e with e; omega)).trans S.hr, hD⟩⟩
end
theorem list8 (l : List Int) (h : l.length = 8) : ∃ a0 a1 a2 a3 a4 a5 a6 a7, l = [a0, a1, a2, a3, a4, a5, a6, a7] := by
  match l, h with
  | [a0, a1, a2, a3, a4, a5, a6, a7], _ => exact ⟨_, _, _, _, _, _, _, _, rfl⟩
set_option maxRecDepth 100000 in
set_option maxHeartbeats 40000000 in
theorem dsum13 (w : World) (g : Nat) (t : List Int) (hD : Dg w g (dH t H0) (dR t) (t.length : Nat)) (hl : t.length ≤ 800000) :
    Calls Try.prog 13 #[.pointer (some ⟨g, 0, none⟩)] w fun e w' => e = .returned (.agg (u8s (sum t))) ∧ Below w.heap.size w w' := by
  have hH : (dH t H0).length = 8 := by rw [dH, absN_length]; rfl
  have HL := Aside0.mk hl
  have HD0 := Aside0.mk hD
  have hD1 := hD.keep (Below.alloc (Below.refl _ _) (Nat.le_refl _) (.cells (u8s z32) 25))
  have hB1 := (Below.refl w.heap.size w).alloc (Nat.le_refl _) (.cells (u8s z32) 25)
  have hr1 := blk_new w (.cells (u8s z32) 25)
  go_enter Try.func13, Try.ntmps13
  go_wp2_with ((with_reducible refine gate_dst (N := 2) rfl ?_); refine step_alloc rfl 25 rfl (u8s z32) zero25.1 ?_)
  generalize hw1 : w.alloc (.cells (u8s z32) 25) = w1 at *
  obtain ⟨v, h1, hR⟩ := hD1.out
  obtain ⟨Ar, cr, rfl, hcr, hrC⟩ := Kd.R_reads hR
  have HCl := Aside0.mk (clone24 w1.drew (dR t) Ar cr (dR t).length (Kd.C_drew hrC) rfl (by rw [dR_length]; omega))
  have HD := Aside0.mk hD1
  have HB1 := Aside0.mk hB1
  have Hr1 := Aside0.mk hr1
  obtain ⟨a0, a1, a2, a3, a4, a5, a6, a7, hK⟩ := list8 (dH t H0) hH
  rw [hK] at h1
  have c0 : w1.drew.cell? ⟨g, 0, none⟩ = some (.int .u32 a0) := cell_of_row w1 g 0 _ 56 (0, 0) h1
  have c1 : w1.drew.cell? ⟨g, 1, none⟩ = some (.int .u32 a1) := cell_of_row w1 g 1 _ 56 (0, 0) h1
  have c2 : w1.drew.cell? ⟨g, 2, none⟩ = some (.int .u32 a2) := cell_of_row w1 g 2 _ 56 (0, 0) h1
  have c3 : w1.drew.cell? ⟨g, 3, none⟩ = some (.int .u32 a3) := cell_of_row w1 g 3 _ 56 (0, 0) h1
  have c4 : w1.drew.cell? ⟨g, 4, none⟩ = some (.int .u32 a4) := cell_of_row w1 g 4 _ 56 (0, 0) h1
  have c5 : w1.drew.cell? ⟨g, 5, none⟩ = some (.int .u32 a5) := cell_of_row w1 g 5 _ 56 (0, 0) h1
  have c6 : w1.drew.cell? ⟨g, 6, none⟩ = some (.int .u32 a6) := cell_of_row w1 g 6 _ 56 (0, 0) h1
  have c7 : w1.drew.cell? ⟨g, 7, none⟩ = some (.int .u32 a7) := cell_of_row w1 g 7 _ 56 (0, 0) h1
  have c8 : w1.drew.cell? ⟨g, 8, none⟩ = some (.slice Ar (dR t).length cr) := cell_of_row w1 g 8 _ 56 (0, 0) h1
  clear h1 hR hrC hD hD1 hB1 hl hr1
  have HN := Aside0.mk hcr
  clear hcr
  refine start_ (n := 12) (S := fun w' => w'.cell? ⟨g, 0, none⟩ = some (Value.int IntKind.u32 a0) ∧ w'.cell? ⟨g, 1, none⟩ = some (Value.int IntKind.u32 a1) ∧ w'.cell? ⟨g, 2, none⟩ = some (Value.int IntKind.u32 a2) ∧ w'.cell? ⟨g, 3, none⟩ = some (Value.int IntKind.u32 a3) ∧ w'.cell? ⟨g, 4, none⟩ = some (Value.int IntKind.u32 a4) ∧ w'.cell? ⟨g, 5, none⟩ = some (Value.int IntKind.u32 a5) ∧ w'.cell? ⟨g, 6, none⟩ = some (Value.int IntKind.u32 a6) ∧ w'.cell? ⟨g, 7, none⟩ = some (Value.int IntKind.u32 a7) ∧ w'.cell? ⟨g, 8, none⟩ = some (Value.slice Ar (dR t).length cr)) (ds := [10]) #[false, false, false, false, false, false, false, false, false, false, false, false] (by kernel_rfl) rfl rfl ⟨c0, c1, c2, c3, c4, c5, c6, c7, c8⟩ (fun hHeld => ?_)
  refine pure_ (i := 0) (N := some 9) (v := ?_) (a' := ?_) #[true, false, false, false, false, false, false, false, false, false, false, false] rfl rfl (by kernel_rfl) (fun _ _ _ h => h) (Or.inl ⟨by rfl, ?_⟩) ?_ ?_
  rotate_left
  · intro w'
    go_simp
    with_reducible rfl
  rotate_left
  · simp only [Act.put, List.setIfInBounds_toArray, List.set_cons_zero, List.set_cons_succ, i64_w, i32_w]
    rfl
  refine pure_ (i := 1) (N := some 10) (v := ?_) (a' := ?_) #[true, true, false, false, false, false, false, false, false, false, false, false] rfl rfl (by kernel_rfl) (fun _ _ _ h => h) (Or.inl ⟨by rfl, ?_⟩) ?_ ?_
  rotate_left
  · intro w'
    go_simp
    with_reducible rfl
  rotate_left
  · simp only [Act.put, List.setIfInBounds_toArray, List.set_cons_zero, List.set_cons_succ, i64_w, i32_w]
    rfl
  refine pure_ (i := 2) (N := some 11) (v := ?_) (a' := ?_) #[true, true, true, false, false, false, false, false, false, false, false, false] rfl rfl (by kernel_rfl) (fun _ _ _ h => h) (Or.inl ⟨by rfl, ?_⟩) ?_ ?_
  rotate_left
  · intro w'
    go_simp
    with_reducible rfl
  rotate_left
  · simp only [Act.put, List.setIfInBounds_toArray, List.set_cons_zero, List.set_cons_succ, i64_w, i32_w]
    rfl
  refine pure_ (i := 4) (N := some 13) (v := ?_) (a' := ?_) #[true, true, true, false, true, false, false, false, false, false, false, false] rfl rfl (by kernel_rfl) (fun _ _ _ h => h) (Or.inl ⟨by rfl, ?_⟩) ?_ ?_
  rotate_left
  · intro w'
    go_simp
    with_reducible rfl
  rotate_left
  · simp only [Act.put, List.setIfInBounds_toArray, List.set_cons_zero, List.set_cons_succ, i64_w, i32_w]
    rfl
  refine pure_ (i := 5) (N := some 14) (v := ?_) (a' := ?_) #[true, true, true, false, true, true, false, false, false, false, false, false] rfl rfl (by kernel_rfl) (fun _ _ _ h => h) (Or.inl ⟨by rfl, ?_⟩) ?_ ?_
  rotate_left
  · intro w'
    go_simp
    with_reducible rfl
  rotate_left
  · simp only [Act.put, List.setIfInBounds_toArray, List.set_cons_zero, List.set_cons_succ, i64_w, i32_w]
    rfl
  refine pure_ (i := 6) (N := some 15) (v := ?_) (a' := ?_) #[true, true, true, false, true, true, true, false, false, false, false, false] rfl rfl (by kernel_rfl) (fun _ _ _ h => h) (Or.inl ⟨by rfl, ?_⟩) ?_ ?_
  rotate_left
  · intro w'
    go_simp
    with_reducible rfl
  rotate_left
  · simp only [Act.put, List.setIfInBounds_toArray, List.set_cons_zero, List.set_cons_succ, i64_w, i32_w]
    rfl
  refine take_ (i := 3) (N := some 12) (v := ?_) (a' := ?_) #[true, true, true, true, true, true, true, false, false, false, false, false] rfl rfl (by kernel_rfl) (fun _ _ _ h => h) (Or.inl ⟨by rfl, ?_⟩) hHeld ?_ ?_
  rotate_left
  · rintro w' ⟨s0, s1, s2, s3, s4, s5, s6, s7, s8⟩
    go_simp
    with_reducible rfl
  rotate_left
  · simp only [Act.put, List.setIfInBounds_toArray, List.set_cons_zero, List.set_cons_succ, i64_w, i32_w]
    rfl
  refine take_ (i := 7) (N := some 16) (v := ?_) (a' := ?_) #[true, true, true, true, true, true, true, true, false, false, false, false] rfl rfl (by kernel_rfl) (fun _ _ _ h => h) (Or.inl ⟨by rfl, ?_⟩) hHeld ?_ ?_
  rotate_left
  · rintro w' ⟨s0, s1, s2, s3, s4, s5, s6, s7, s8⟩
    go_simp
    with_reducible rfl
  rotate_left
  · simp only [Act.put, List.setIfInBounds_toArray, List.set_cons_zero, List.set_cons_succ, i64_w, i32_w]
    rfl
  refine one_ (i := 8) (N := some 17) #[true, true, true, true, true, true, true, true, true, false, false, false] rfl rfl (by kernel_rfl) (by decide) (fun K hK => ?_)
  refine goes_ Try.func24 (by kernel_rfl) rfl #[.slice Ar (dR t).length cr] (by rfl) rfl rfl (by simp only [List.map_toArray, List.map_cons, List.map_nil]; rfl) ?_
  refine Calls.mono (HCl.out) ?_
  rintro e w3 ⟨v3, rfl, hR3, hB3⟩
  refine ⟨_, rfl, ?_⟩
  obtain ⟨A5, k5, e5⟩ := Kd.R_slice hR3
  subst e5
  refine hK.out _ _ ⟨pw_cell_below hB3 c0, pw_cell_below hB3 c1, pw_cell_below hB3 c2, pw_cell_below hB3 c3, pw_cell_below hB3 c4, pw_cell_below hB3 c5, pw_cell_below hB3 c6, pw_cell_below hB3 c7, pw_cell_below hB3 c8⟩ (fun hHeld => ?_)
  clear hK K
  refine norm_ (a' := ?_) ?_ ?_
  rotate_left
  · show Act.put _ (some 17) _ = _
    simp only [Act.put, List.setIfInBounds_toArray, List.set_cons_zero, List.set_cons_succ, i64_w, i32_w]
    rfl
  refine pure_ (i := 9) (N := some 18) (v := ?_) (a' := ?_) #[true, true, true, true, true, true, true, true, true, true, false, false] rfl rfl (by kernel_rfl) (fun _ _ _ h => h) (Or.inl ⟨by rfl, ?_⟩) ?_ ?_
  rotate_left
  · intro w'
    go_simp
    with_reducible rfl
  rotate_left
  · simp only [Act.put, List.setIfInBounds_toArray, List.set_cons_zero, List.set_cons_succ, i64_w, i32_w]
    rfl
  refine last_ (i := 10) (N := some 19) #[true, true, true, true, true, true, true, true, true, true, true, false] rfl rfl (by kernel_rfl) (by decide) (fun K hK => ?_)
  refine value_ (w1 := ?_) (v := ?_) (by rfl) rfl ?_ ?_
  rotate_left 2
  · go_simp
    constructor
    · rfl
    · rfl
  refine hK.out _ _ ?_
  clear hK K
  refine norm_ (a' := ?_) ?_ ?_
  rotate_left
  · show Act.put _ (some 19) _ = _
    simp only [Act.put, List.setIfInBounds_toArray, List.set_cons_zero, List.set_cons_succ, i64_w, i32_w]
    rfl
  refine pure_ (i := 11) (N := some 3) (v := ?_) (a' := ?_) #[true, true, true, true, true, true, true, true, true, true, true, true] rfl rfl (by kernel_rfl) (fun _ _ _ h => h) (Or.inl ⟨by rfl, ?_⟩) ?_ ?_
  rotate_left
  · intro w'
    go_simp
    with_reducible rfl
  rotate_left
  · simp only [Act.put, List.setIfInBounds_toArray, List.set_cons_zero, List.set_cons_succ, i64_w, i32_w]
    rfl
  refine done_ (by kernel_rfl) ?_
  have HS := Aside0.mk (show Sg w (w3.alloc (.cells #[.int .u32 a0, .int .u32 a1, .int .u32 a2, .int .u32 a3, .int .u32 a4, .int .u32 a5, .int .u32 a6, .int .u32 a7, .slice A5 (dR t).length k5, .int .i64 0] 56)) w3.heap.size t 0 from by
    have hb := hB3.alloc hB3.size (.cells #[.int .u32 a0, .int .u32 a1, .int .u32 a2, .int .u32 a3, .int .u32 a4, .int .u32 a5, .int .u32 a6, .int .u32 a7, .slice A5 (dR t).length k5, .int .i64 0] 56)
    have hlt := heap_lt Hr1.out
    have hs := hB3.size
    refine ⟨below_then HB1.out HB1.out.size (show Below w1.heap.size w1 _ from ⟨hb.os, hb.tape, hb.output, hb.size, hb.block⟩), Nat.lt_of_lt_of_le hlt hs, (hb.block _ hlt).trans Hr1.out, ⟨_, ?_, Kd.R_lower (Kd.R_alloc hR3 _) (Nat.zero_le _)⟩⟩
    rw [hK]
    exact blk_new _ _)
  have HDn := Aside0.mk (show ∀ W, Below w.heap.size w W → W.cell? ⟨g, 9, none⟩ = some (.int .i64 (t.length : Nat)) from fun W hB => by
    obtain ⟨v, h1, _⟩ := HD0.out.out
    have := (hB.block g (heap_lt h1)).trans h1
    rw [cell_of_row W g 9 _ 56 (0, 0) this, (dig_rest hH).2])
  generalize w3.alloc (.cells #[.int .u32 a0, .int .u32 a1, .int .u32 a2, .int .u32 a3, .int .u32 a4, .int .u32 a5, .int .u32 a6, .int .u32 a7, .slice A5 (dR t).length k5, .int .i64 0] 56) = w4 at *
  generalize w3.heap.size = g2 at *
  clear hB3 hR3 HCl c0 c1 c2 c3 c4 c5 c6 c7 c8 HD HD0
  go_wp2_with (first
    | (go_at_call 12; refine ((HS.out.alloc (.cells #[.int .u8 128] 5)).write (some ⟨_, 0, none⟩) [128] 1 (C_blk (l := [128]) (blk_new _ _) (by decide)) (by decide) (by have := HL.out; simp; omega) (by omega)).mono ?_; rintro e w5 ⟨rfl, hS5⟩; obtain ⟨Ax, cx, hx8⟩ := hS5.rest; have HS5 := Aside0.mk hS5; clear hS5 HS)
    | ((with_reducible refine gate_dst (N := 31) rfl ?_); refine Kd.R_make KBs (w0 := w) w.heap.size 5 rfl rfl 23 (.tmp 30) (.tmp 30) rfl ((120 - ((t.length : Int) + 1) % 64) % 64) rfl rfl Try.underlying23 (.int .u8 0) 1 info5 rfl (by decide) (by decide) 0 (ok := fun _ => True) (okp := fun _ => True) rfl (fun _ h => h) trivial (by omega) (by omega) HS5.out.below HS5.out.below.size ?_; intro v6 w6 hR6 hb6 hg6 _; rw [show ((120 - ((t.length : Int) + 1) % 64) % 64).toNat = padz t.length by unfold padz; omega] at hR6; generalize hZ : List.replicate (padz t.length) (0 : Int) = Z at hR6; obtain ⟨A6, c6, e6, hc6, hC6⟩ := Kd.R_reads hR6; subst e6; have HS6 := Aside0.mk (HS5.out.on (below_of_only hg6)); have HC6 := Aside0.mk hC6; have Hc6 := Aside0.mk hc6; have HZ := Aside0.mk (show Z = List.replicate (padz t.length) 0 ∧ Z.length ≤ 64 from ⟨hZ.symm, by rw [← hZ]; unfold padz; simp; omega⟩); clear hR6 hb6 hg6 HS5 hC6 hc6 hx8 hZ)
    | (go_at_call 12; refine (HS6.out.write A6 Z c6 HC6.out Hc6.out (by have := HL.out; have := HZ.out.2; simp; omega) (by simp)).mono ?_; rintro e w7 ⟨rfl, hS7⟩; have hn9 := HDn.out w7 hS7.below; have HS7 := Aside0.mk hS7; clear hS7 HS6 HC6 Hc6))
  have hN : IntKind.u64.wrap (IntKind.u64.wrap (t.length : Int) * 8) = 8 * (t.length : Int) := by
    have := HL.out
    simp only [IntKind.wrap_u64]
    omega
  generalize IntKind.u64.wrap (IntKind.u64.wrap (t.length : Int) * 8) = N at *
  have HN2 := Aside0.mk hN
  clear hN hn9
  go_loopw [6, 5] (fun i u wr => ∃ k : Nat, k ≤ 8 ∧ i = .int .i64 (56 - 8 * (k : Int)) ∧ Kd.R KBs 5 wr w7.heap.size (fun _ => True) u (szs N k) ∧ Below w7.heap.size w7 wr) (fun i _ _ => (intOf i + 8).toNat)
  case atStart => exact ⟨0, by omega, rfl, Kd.R_nil _ _ _ _ _, Below.refl _ _⟩
  case round =>
    obtain ⟨k, hk, rfl, hR, hB⟩ := hrel
    by_cases hlt : k < 8
    · obtain ⟨s, hs⟩ : ∃ s : Nat, (56 - 8 * (k : Int)) = (s : Int) := ⟨56 - 8 * k, by omega⟩
      have HX := Aside0.mk (show szs N (k + 1) = szs N k ++ [IntKind.u8.wrap (N / 2 ^ s)] by rw [szs, show 56 - 8 * k = s by omega])
      have HK := Aside0.mk (show (s : Int) - 8 = 56 - 8 * ((k + 1 : Nat) : Int) ∧ (s : Int) = 56 - 8 * (k : Int) by omega)
      rw [hs]
      have q1 : (0 : Int) ≤ (s : Int) := by omega
      have q2 : (s : Int) ≤ 64 := by omega
      have q3 : decide ((0 : Int) ≤ (s : Int)) = true := decide_eq_true q1
      have HL2 := Aside0.mk (show ((szs N k).length + 1) * 1 ≤ 140737488355328 by rw [szs_length]; omega)
      have w1' : wrap64 ((s : Int) - 8) = (s : Int) - 8 := by unfold wrap64; omega
      have HR := Aside0.mk hR
      have HB := Aside0.mk hB
      clear hs hR hB
      go_wp2_with (first
        | ((with_reducible refine gate_dst (N := 48) rfl ?_); refine Kd.event_run (v := .slice (some ⟨wr.heap.size, 0, none⟩) 1 1) (w1 := wr.alloc (.cells (u8s [N / 2 ^ s % 256]) 5)) rfl (by go_simp; rfl) ?_)
        | ((with_reducible refine gate_dst (N := 49) rfl ?_); refine Kd.R_append_rows KBs (w0 := w7) w7.heap.size rfl (.tmp 43) (.tmp 48) 23 5 (.int .u8 0) 1 rfl Try.underlying23 info5 rfl (by decide) (by omega) u5 (szs N k) [N / 2 ^ s % 256] _ _ _ (fun _ => True) (fun _ => False) rfl rfl (Kd.R_alloc HR.out _) (C_blk (blk_new wr _) (by simp)) (fun _ _ h => h) (fun _ h => h.elim) (fun _ _ => trivial) (HB.out.alloc HB.out.size _) (HB.out.alloc HB.out.size _).size HL2.out ?_; intro v1 w1 ho hb hg hat))
      go_roundw
      case rel => exact ⟨k + 1, by omega, by rw [← HK.out.1], by rw [HX.out, IntKind.wrap_u8]; exact ho, hb⟩
      case measure => simp [intOf]; have := HK.out.2; omega
    · obtain rfl : k = 8 := by omega
      obtain ⟨A8, c8, e8, hc8, hC8⟩ := Kd.R_reads hR
      subst e8
      have HS8 := Aside0.mk (HS7.out.on hB)
      have HC8 := Aside0.mk hC8
      have Hc8 := Aside0.mk hc8
      have HZ8 := Aside0.mk (szs_length N 8)
      clear hR hB hC8 hc8 HS7
      generalize hY : szs N 8 = Y at *
      go_wp2_with (first
        | (go_at_call 12; refine (HS8.out.write A8 Y c8 HC8.out Hc8.out (by have := HL.out; have := HZ.out.2; have := HZ8.out; simp; omega) (by have := HZ.out.2; simp; omega)).mono ?_; rintro e w9 ⟨rfl, hS9⟩; have HS9 := Aside0.mk hS9; clear hS9 HS8 HC8 Hc8)
        | ((with_reducible refine gate_dst (N := 7) rfl ?_); refine step_alloc rfl 25 rfl (u8s z32) zero25.1 ?_))
      have HP := Aside0.mk (show (((t ++ [128]) ++ Z) ++ Y) = pad t by rw [HZ.out.1, ← hY, HN2.out]; rfl)
      have HSA := Aside0.mk ((HS9.out.alloc (.cells (u8s z32) 25)))
      have hq := blk_new w9 (.cells (u8s z32) 25)
      have hlo : w.heap.size < w9.heap.size := heap_lt HS9.out.hr
      have hg2q : g2 < w9.heap.size := HS9.out.x.lt
      have HG2 := Aside0.mk HS9.out.lo
      obtain ⟨vx, hx1, _⟩ := HSA.out.x.out
      rw [HP.out] at hx1
      have HB9 := Aside0.mk HSA.out.below
      have HR9 := Aside0.mk HSA.out.hr
      have hHl : (dH (pad t) H0).length = 8 := by rw [dH, absN_length]; rfl
      have HSum := Aside0.mk (show sum t = Os (dH (pad t) H0) 32 from rfl)
      clear HS9 HSA HP HZ HZ8 HN2 HDn
      generalize dH (pad t) H0 = D at *
      generalize w9.alloc (.cells (u8s z32) 25) = wA at *
      generalize w9.heap.size = q at *
      have HX1 := Aside0.mk hx1
      have HQ := Aside0.mk hq
      clear hx1 hq hY
      go_loopw [53, 8] (fun i _ wr => ∃ k : Nat, k ≤ 32 ∧ i = .int .i64 (k : Nat) ∧ Below q wA wr ∧ wr.heap[q]? = some (.cells (u8s (Os D k)) 25 (0, 0))) (fun i _ _ => 32 - (intOf i).toNat)
      case atStart => exact ⟨0, by omega, rfl, Below.refl _ _, HQ.out⟩
      case round =>
        obtain ⟨k, hk, rfl, hB, hQ⟩ := hrel
        by_cases hlt : k < 32
        · obtain ⟨a, ha⟩ : ∃ a : Nat, k / 4 = a := ⟨_, rfl⟩
          obtain ⟨b, hb⟩ : ∃ b : Nat, k % 4 = b := ⟨_, rfl⟩
          obtain ⟨s, hs⟩ : ∃ s : Nat, 24 - 8 * b = s := ⟨_, rfl⟩
          have e1 : (k : Int) / 4 = (a : Int) := by omega
          have e2 : (k : Int) % 4 = (b : Int) := by omega
          have e3 : (24 : Int) - 8 * (b : Int) = (s : Int) := by omega
          have q1 : (0 : Int) ≤ (k : Int) := by omega
          have q2 : (k : Int) < 32 := by omega
          have q3 : (0 : Int) ≤ (a : Int) := by omega
          have q4 : (a : Int) < 8 := by omega
          have q5 : (0 : Int) ≤ (s : Int) := by omega
          have q6 : (s : Int) ≤ 32 := by omega
          have hca : wr.cell? ⟨g2, a, none⟩ = some (.int .u32 (at32 D a)) := dig_cell ((hB.block g2 hg2q).trans HX1.out) (by omega)
          have hcq := at8_cell hQ (i := k) (by rw [Os_length]; omega)
          have hfq := frozen_of_row wr q k _ _ hQ
          have HX := Aside0.mk (show Os D (k + 1) = (Os D k).set k (IntKind.u8.wrap (at32 D a / 2 ^ s)) by rw [Os, ob, ha, hb, hs])
          have HB := Aside0.mk hB
          have HQ2 := Aside0.mk hQ
          clear hB hQ hs ha hb
          generalize at32 D a = x at *
          generalize at32 (Os D k) k = y at *
          go_wp2
          go_roundw
          case rel => exact ⟨k + 1, by omega, by go_num, HB.out.setCell (Nat.le_refl q) _, by rw [HX.out, ← u8s_set, IntKind.wrap_u8]; exact blkset HQ2.out k _⟩
          case measure => simp [intOf]; omega
        · obtain rfl : k = 32 := by omega
          have HI := Aside0.mk (show ∀ l : List Int, l.length = 32 → (Try.prog.info? 25).map (·.size) = some (u8s l).size from fun l hl => by rw [u8s_size, hl]; exact zero25.2)
          have hol := Os_length D 32
          have HB := Aside0.mk hB
          have HQ2 := Aside0.mk hQ
          have HR2 := Aside0.mk ((hB.block _ hlo).trans HR9.out)
          generalize Os D 32 = O at *
          clear hB hQ
          go_wp2_with (first
            | ((with_reducible refine gate_dst (N := 72) rfl ?_); refine wpList_load_row rfl 25 (.tmp 7) rfl q rfl 25 (u8s O) (0, 0) _ HQ2.out Try.underlying25 rfl (HI.out O hol) ?_)
            | ((with_reducible refine gate_store (t := 25) (p := 2) (v := .tmp 72) rfl ?_); refine wpList_store_row rfl 25 (.tmp 2) (.tmp 72) rfl w.heap.size (u8s O) rfl rfl 25 (u8s z32) HR2.out (HI.out O hol) (by rw [u8s_size, u8s_size, hol]; rfl) (u8s_one O) ?_))
          (try simp only [Exit.inBlock, Exit.then])
          refine bodyPost_ret (results_cell_row rfl _ _ w.heap.size 25 (u8s O) (0, 0) _ rfl (setRow_heap wr _ _ _ 25 _ HR2.out) Try.underlying25 rfl (HI.out O hol)) rfl ?_
          exact ⟨by rw [HSum.out], below_setRow (HB9.out.trans (HB.out.mono (by omega))) (Nat.le_refl _) _⟩
end Go.Proofs.Ytcagmiglgpjcjaa.Sh
