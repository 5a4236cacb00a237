/-
  The walk of Digest.Write, Len, New.
-/
import Derived.Test.YtcagmiglgpjcjaaShaAbs
set_option linter.unusedVariables false
set_option linter.unusedSimpArgs false
namespace Go.Proofs.Ytcagmiglgpjcjaa.Sh
open Go.RowKit Go.Proofs.YtcagmiglgpjcjaaW.PrintWords Go.Proofs.YtcagmiglgpjcjaaW.PrintLast Go.Proofs.YtcagmiglgpjcjaaW.PrintMore Go.Proofs.Ytcagmiglgpjcjaa.PSa

/-- The words that a digest begins with. -/
def H0 : List Int := [1779033703, 3144134277, 1013904242, 2773480762, 1359893119, 2600822924, 528734635, 1541459225]
theorem info56 : (Try.prog.info? 56).map (fun i => (i.size)) = some 10 := by kernel_rfl
set_option maxRecDepth 100000 in
theorem new11 (w : World) : Calls Try.prog 11 #[] w fun e w' => e = .returned (.pointer (some ⟨w.heap.size, 0, none⟩)) ∧ Below w.heap.size w w' ∧ Dg w' w.heap.size H0 [] 0 := by
  go_enter Try.func11, Try.ntmps11
  go_wp2_with (first
    | ((with_reducible refine gate_dst (N := 1) rfl ?_); refine Kd.event_run (v := .agg (u32s H0)) (w1 := w) rfl (by kernel_rfl) ?_)
    | ((with_reducible refine gate_dst (N := 2) rfl ?_); refine Kd.event_run (v := .agg (dig H0 (.slice none 0 0) (.int .i64 0))) (w1 := w) rfl (by kernel_rfl) ?_)
    | ((with_reducible refine gate_dst (N := 3) rfl ?_); refine step_box rfl 56 (.tmp 2) rfl (dig H0 (.slice none 0 0) (.int .i64 0)) rfl ?_))
  go_ret
  exact ⟨rfl, (Below.refl _ _).alloc (Nat.le_refl _) _, ⟨_, blk_new w _, Kd.R_nil _ _ _ _ _⟩⟩
theorem len14 (w : World) (g : Nat) (h r : List Int) (n : Int) (hD : Dg w g h r n) (hh : h.length = 8) : Calls Try.prog 14 #[.pointer (some ⟨g, 0, none⟩)] w fun e w' => e = .returned (.int .i64 n) ∧ Drawn0 w w' := by
  obtain ⟨v, h1, _⟩ := hD.out
  have hc : w.cell? ⟨g, 9, none⟩ = some (.int .i64 n) := by rw [cell_of_row w g 9 _ 56 (0, 0) h1, (dig_rest hh).2]
  clear h1 hD
  go_enter Try.func14, Try.ntmps14
  go_wp2
  go_ret
  exact ⟨rfl, Drawn0.refl _⟩
set_option maxRecDepth 100000 in
set_option maxHeartbeats 40000000 in
theorem write12 (w : World) (g : Nat) (h0 t m : List Int) (z : Nat) (A : Option Addr) (c : Nat) (hh : h0.length = 8) (hD : Dg w g (dH t h0) (dR t) (z : Nat)) (hm : KBs.C w A m.length m) (hc : m.length ≤ c) (hl : t.length + m.length ≤ 900000) (hz : z ≤ 900000) :
    Calls Try.prog 12 #[.pointer (some ⟨g, 0, none⟩), .slice A m.length c] w fun e w' => e = .returned (.tuple #[]) ∧ w.grownBy w' (some g) ∧ Dg w' g (dH (t ++ m) h0) (dR (t ++ m)) ((z + m.length : Nat) : Int) := by
  obtain ⟨v, h1, hR⟩ := hD.out
  have hH : (dH t h0).length = 8 := by rw [dH, absN_length, hh]
  obtain ⟨Ar, cr, rfl, hcr, hrC⟩ := Kd.R_reads hR
  have hn : w.cell? ⟨g, 9, none⟩ = some (.int .i64 ((z : Nat) : Int)) := by rw [cell_of_row w g 9 _ 56 (0, 0) h1, (dig_rest hH).2]
  have hr : w.cell? ⟨g, 8, none⟩ = some (.slice Ar (dR t).length cr) := by rw [cell_of_row w g 8 _ 56 (0, 0) h1, (dig_rest hH).1]
  have hf := frozen_of_row w g 9 _ _ h1
  have w0' : wrap64 ((z : Int) + (m.length : Int)) = ((z : Int) + (m.length : Int)) := by unfold wrap64; omega
  have HD := Aside0.mk hD
  have HR := Aside0.mk hR
  have HM := Aside0.mk hm
  have HRC := Aside0.mk hrC
  have HB := Aside0.mk h1
  clear hD hR hm hrC h1
  go_enter Try.func12, Try.ntmps12
  have HW := Aside0.mk (show ∀ W1 : World, W1 = (w.setCell ⟨g, 9, none⟩ (.int .i64 ((z : Int) + (m.length : Int)))).alloc (.cells #[.slice Ar (dR t).length cr, .slice A m.length c] 23) →
      KR.C W1 (some ⟨w.heap.size, 0, none⟩) 2 [dR t, m] ∧ w.grownBy W1 (some g) ∧ W1.heap[g]? = some (.cells (dig (dH t h0) (.slice Ar (dR t).length cr) (.int .i64 ((z : Int) + (m.length : Int)))) 56 (0, 0)) from fun W1 hW => by
    have hG : w.grownBy W1 (some g) := by rw [hW]; exact only_alloc (only_set ⟨rfl, rfl, rfl, Nat.le_refl _, fun _ _ _ => rfl⟩ _ _) _
    have hR1 := (Kd.R_reads' (R_kept HR.out HB.out hG)).2.2
    have hsz : (w.setCell ⟨g, 9, none⟩ (.int .i64 ((z : Int) + (m.length : Int)))).heap.size = w.heap.size := size_setCell _ _ _
    have hM1 : KBs.C W1 A m.length m := C_grown HM.out HB.out hG
    refine ⟨⟨rfl, by decide, fun _ => ⟨_, rfl, fun j p hj => ?_⟩⟩, hG, ?_⟩
    · match j, hj with
      | 0, hj =>
        injection hj with hj
        subst hj
        refine ⟨[.slice Ar (dR t).length cr], rfl, ⟨_, _, rfl, hcr, hR1⟩, fun i u hu => ?_⟩
        match i, hu with
        | 0, hu =>
          injection hu with hu
          subst hu
          rw [hW, Addr.add_mid, cell_of_row _ w.heap.size _ _ 23 (0, 0) (by rw [← hsz]; exact blk_new _ _)]
          rfl
      | 1, hj =>
        injection hj with hj
        subst hj
        refine ⟨[.slice A m.length c], rfl, ⟨_, _, rfl, hc, hM1⟩, fun i u hu => ?_⟩
        match i, hu with
        | 0, hu =>
          injection hu with hu
          subst hu
          rw [hW, Addr.add_mid, cell_of_row _ w.heap.size _ _ 23 (0, 0) (by rw [← hsz]; exact blk_new _ _)]
          rfl
    · rw [hW, ← dig_set9 hH]
      exact blkalloc (blkset HB.out 9 _) _)
  have HX := Aside0.mk (show ∀ W1 : World, W1 = (w.setCell ⟨g, 9, none⟩ (.int .i64 ((z : Int) + (m.length : Int)))).alloc (.cells #[.slice Ar (dR t).length cr, .slice A m.length c] 23) → Calls Try.prog 22 #[.slice (some ⟨w.heap.size, 0, none⟩) 2 2] W1 fun e w' => ∃ v0_ : Value, e = .returned v0_ ∧ Kd.R KBs 5 w' W1.heap.size (fun _ => True) v0_ (dR t ++ m) ∧ Below W1.heap.size W1 w' from fun W1 hW => by
    have := concat22 W1 [dR t, m] (some ⟨w.heap.size, 0, none⟩) 2 2 (HW.out W1 hW).1 rfl (by decide) (by simp [dR_length]; omega)
    simpa using this)
  go_wp2_with (go_at_call 22; refine (HX.out _ (by simp)).mono ?_; rintro e w3 ⟨v3, rfl, hR3, hB3⟩)
  obtain ⟨_, hG1, hg1⟩ := HW.out _ rfl
  generalize ((w.setCell ⟨g, 9, none⟩ (.int .i64 ((z : Int) + (m.length : Int)))).alloc (.cells #[.slice Ar (dR t).length cr, .slice A m.length c] 23)) = w1 at *
  have hG3 : w.grownBy w3 (some g) := hG1.trans (only_below hB3 _)
  have hg3 := (hB3.block g (heap_lt hg1)).trans hg1
  obtain ⟨A3, c3, rfl, hc3, hC3⟩ := Kd.R_reads hR3
  have hA3 : ∀ ad, A3 = some ad → ad.block ≠ g := fun ad e => by
    have hb := Kd.R_base hR3
    subst e
    have h1 := hb ad.block (by simp [Value.ownBlock])
    have h2 := heap_lt hg1
    omega
  have HTr := Aside0.mk (show ∀ (W W' : World) (n : Nat) (l : List Int) (A : Option Addr), (∀ ad, A = some ad → ad.block ≠ g) → KBs.C W A n l → W.grownBy W' (some g) → KBs.C W' A n l from fun W W' n l A hA hC hG => Kd.C_keep 0 hC ⟨hG.size, fun i hi hne _ => hG.block i hi (by intro e; injection e with e; exact hne e)⟩ (fun ad e _ => hA ad e))
  obtain ⟨i5, hi5, _, hs5, _⟩ := info_parts info5
  generalize hL : dR t ++ m = L at *
  have hLl : L.length ≤ 900064 := by rw [← hL, List.length_append, dR_length]; omega
  have hH0 := hH
  generalize hK0 : dH t h0 = K0 at *
  clear hR3 hB3 hg1 hG1
  go_loopw [4] (fun u wr => ∃ (j : Nat) (A2 : Option Addr) (c2 : Nat), 64 * j ≤ L.length ∧ u = .slice A2 (L.length - 64 * j) c2 ∧ L.length - 64 * j ≤ c2 ∧ KBs.C wr A2 (L.length - 64 * j) (L.drop (64 * j)) ∧ (∀ ad, A2 = some ad → ad.block ≠ g) ∧ w.grownBy wr (some g) ∧ wr.heap[g]? = some (.cells (dig (absN Kc K0 L j) (.slice Ar (dR t).length cr) (.int .i64 ((z : Int) + (m.length : Int)))) 56 (0, 0))) (fun u _ => (match u with | .slice _ n _ => n | _ => 0))
  case atStart => exact ⟨0, A3, c3, by omega, rfl, hc3, hC3, hA3, hG3, hg3⟩
  case round =>
    clear hC3 hA3 hG3 hg3
    obtain ⟨j, A2, c2, hj, rfl, hc2, hC2, hA2, hG2, hg2⟩ := hrel
    by_cases hlt : 64 ≤ L.length - 64 * j
    · have hcut1 := cut_to (P := Try.prog) 23 5 .i64 Try.underlying23 hi5 A2 (L.length - 64 * j) c2 64 (by decide) (by omega) hc2
      obtain ⟨A4, hcut2, hC4, hA4⟩ : ∃ A4, (∀ W : World, (Instr.slice 23 (.slice A2 (L.length - 64 * j) c2) (some (.int .i64 64)) none none).run Try.prog W = .ok (.slice A4 (L.length - 64 * (j + 1)) (c2 - 64)) W) ∧ (∀ W : World, KBs.C W A2 (L.length - 64 * j) (L.drop (64 * j)) → KBs.C W A4 (L.length - 64 * (j + 1)) (L.drop (64 * (j + 1)))) ∧ (∀ ad, A4 = some ad → ad.block ≠ g) := by
        refine ⟨if c2 = 64 then A2 else A2.map (·.add 64), fun W => (cut_from (P := Try.prog) 23 5 .i64 Try.underlying23 hi5 1 hs5 A2 (L.length - 64 * j) c2 64 (by decide) (by omega) W).trans ?_, fun W hC => ?_, ?_⟩
        · rw [show L.length - 64 * (j + 1) = L.length - 64 * j - 64 by omega]
          rfl
        · have hl : (L.drop (64 * j)).length = L.length - 64 * j := List.length_drop
          have := Kd.C_drop (m := 64) (c := c2) (by rw [hl]; exact hC) (by omega) (by omega)
          rw [List.drop_drop, List.length_drop] at this
          exact this
        · intro ad e
          split at e
          · exact hA2 ad e
          · cases hA : A2 with
            | none => rw [hA] at e; cases e
            | some a => rw [hA] at e; injection e with e; rw [← e, add_block]; exact hA2 a hA
      have hlen : (absN Kc K0 L j).length = 8 := (absN_length _ _ _ _).trans hH0
      have HM2 := Aside0.mk (mix23 wr.drew g (absN Kc K0 L j) ((L.drop (64 * j)).take 64) (.slice Ar (dR t).length cr) (.int .i64 ((z : Int) + (m.length : Int))) A2 c2 hlen hg2 (by
        have hl : (L.drop (64 * j)).length = L.length - 64 * j := List.length_drop
        have := Kd.C_take (m := 64) (by rw [hl]; exact Kd.C_drew hC2) (by omega)
        rw [List.length_take, Nat.min_eq_left (by omega)] at this
        exact this))
      have q1 : (64 : Int) ≤ ((L.length - 64 * j : Nat) : Int) := by omega
      have q2 : decide ((64 : Int) ≤ ((L.length - 64 * j : Nat) : Int)) = true := decide_eq_true q1
      have HG2 := Aside0.mk hG2
      have HC2 := Aside0.mk hC2
      have HC4 := Aside0.mk hC4
      have HA2 := Aside0.mk hA2
      have HA4 := Aside0.mk hA4
      have Hj := Aside0.mk (show 64 * (j + 1) ≤ L.length ∧ L.length - 64 * (j + 1) ≤ c2 - 64 ∧ L.length - 64 * (j + 1) < L.length - 64 * j by omega)
      clear hG2 hC2 hC4 hg2 hA2 hA4 hlen hlt hj
      generalize hn1 : L.length - 64 * j = n1 at *
      generalize hn2 : L.length - 64 * (j + 1) = n2 at *
      go_wp2
      refine start_ (n := 6) (S := fun w' => True) (ds := []) #[false, false, false, false, false, false] (by kernel_rfl) rfl rfl trivial (fun hHeld => ?_)
      refine pure_ (i := 0) (N := some 24) (v := ?_) (a' := ?_) #[true, false, false, false, false, false] rfl rfl (by kernel_rfl) (fun _ _ _ h => h) (Or.inl ⟨by rfl, ?_⟩) ?_ ?_
      rotate_left
      · intro w'
        go_simp
        with_reducible rfl
      rotate_left
      · simp only [Act.put, List.setIfInBounds_toArray, List.set_cons_zero, List.set_cons_succ, i64_w, i32_w]
        rfl
      refine pure_ (i := 1) (N := some 25) (v := ?_) (a' := ?_) #[true, true, false, false, false, false] rfl rfl (by kernel_rfl) (fun _ _ _ h => h) (Or.inl ⟨by rfl, ?_⟩) ?_ ?_
      rotate_left
      · intro w'
        go_simp
        with_reducible rfl
      rotate_left
      · simp only [Act.put, List.setIfInBounds_toArray, List.set_cons_zero, List.set_cons_succ, i64_w, i32_w]
        rfl
      refine pure_ (i := 2) (N := some 26) (v := ?_) (a' := ?_) #[true, true, true, false, false, false] rfl rfl (by kernel_rfl) (fun _ _ _ h => h) (Or.inl ⟨by rfl, ?_⟩) ?_ ?_
      rotate_left
      · intro w'
        go_simp
        with_reducible rfl
      rotate_left
      · simp only [Act.put, List.setIfInBounds_toArray, List.set_cons_zero, List.set_cons_succ, i64_w, i32_w]
        rfl
      refine pure_ (i := 3) (N := some 27) (v := ?_) (a' := ?_) #[true, true, true, true, false, false] rfl rfl (by kernel_rfl) (fun _ _ _ h => h) (Or.inl ⟨by rfl, ?_⟩) ?_ ?_
      rotate_left
      · intro w'
        go_simp
        with_reducible rfl
      rotate_left
      · simp only [Act.put, List.setIfInBounds_toArray, List.set_cons_zero, List.set_cons_succ, i64_w, i32_w]
        rfl
      refine pure_ (i := 4) (N := some 28) (v := ?_) (a' := ?_) #[true, true, true, true, true, false] rfl rfl (by kernel_rfl) (fun _ _ _ h => h) (Or.inl ⟨by rfl, ?_⟩) ?_ ?_
      rotate_left
      · intro w'
        go_simp
        with_reducible rfl
      rotate_left
      · simp only [Act.put, List.setIfInBounds_toArray, List.set_cons_zero, List.set_cons_succ, i64_w, i32_w]
        rfl
      refine one_ (i := 5) (N := some 29) #[true, true, true, true, true, true] rfl rfl (by kernel_rfl) (by decide) (fun K hK => ?_)
      refine goes_ Try.func23 (by kernel_rfl) rfl #[.pointer (some ⟨g, 0, none⟩), .slice A2 64 c2] (by rfl) rfl rfl (by simp only [List.map_toArray, List.map_cons, List.map_nil]; rfl) ?_
      refine Calls.mono (HM2.out) ?_
      rintro e w5 ⟨rfl, hG5, hg5⟩
      refine ⟨_, rfl, ?_⟩
      refine hK.out _ _ trivial (fun hHeld => ?_)
      clear hK K
      refine norm_ (a' := ?_) ?_ ?_
      rotate_left
      · show Act.put _ (some 29) _ = _
        simp only [Act.put, List.setIfInBounds_toArray, List.set_cons_zero, List.set_cons_succ, i64_w, i32_w]
        rfl
      refine done_ (by kernel_rfl) ?_
      replace HC2 := Aside0.mk (HTr.out _ _ _ _ _ HA2.out (Kd.C_drew HC2.out) hG5)
      replace HG2 := Aside0.mk ((show w.grownBy wr.drew (some g) from only_drew HG2.out).trans hG5)
      clear hG5 HM2
      go_wp2
      go_roundw
      case rel => exact ⟨j + 1, A4, c2 - 64, Hj.out.1, by rw [hn2], by rw [hn2]; exact Hj.out.2.1, by rw [hn2]; exact HC4.out _ HC2.out, HA4.out, HG2.out, hg5⟩
      case measure => exact Hj.out.2.2
    · have hj2 : j = L.length / 64 := by omega
      have hlen : (absN Kc K0 L j).length = 8 := (absN_length _ _ _ _).trans hH0
      have HCl := Aside0.mk (clone24 wr (L.drop (64 * j)) A2 c2 (L.length - 64 * j) hC2 List.length_drop (by omega))
      have q1 : ¬ (64 : Int) ≤ ((L.length - 64 * j : Nat) : Int) := by omega
      have q2 : decide ((64 : Int) ≤ ((L.length - 64 * j : Nat) : Int)) = false := decide_eq_false q1
      have hf8 := frozen_of_row wr g 8 _ _ hg2
      have hc8 : wr.cell? ⟨g, 8, none⟩ = some (.slice Ar (dR t).length cr) := by rw [cell_of_row wr g 8 _ 56 (0, 0) hg2, (dig_rest hlen).1]
      have HG2 := Aside0.mk hG2
      have Hg2 := Aside0.mk hg2
      have HS := Aside0.mk (show ∀ w5 : World, Below wr.heap.size wr w5 → w5.cell? ⟨g, 8, none⟩ = some (.slice Ar (dR t).length cr) ∧ w5.frozen? ⟨g, 8, none⟩ = false ∧ w5.heap[g]? = some (.cells (dig (absN Kc K0 L j) (.slice Ar (dR t).length cr) (.int .i64 ((z : Int) + (m.length : Int)))) 56 (0, 0)) from fun w5 hb => by
        have h5 := (hb.block g (heap_lt hg2)).trans hg2
        exact ⟨by rw [cell_of_row w5 g 8 _ 56 (0, 0) h5, (dig_rest hlen).1], frozen_of_row w5 g 8 _ _ h5, h5⟩)
      clear hG2 hC2 hA2 hg2 hc8 hf8
      generalize hn1 : L.length - 64 * j = n1 at *
      go_wp2_with (go_at_call 24; refine HCl.out.mono ?_; rintro e w5 ⟨v5, rfl, hR5, hB5⟩; obtain ⟨hc8, hf8, hg8⟩ := HS.out w5 hB5; obtain ⟨A5, c5, e5⟩ := Kd.R_slice hR5; rw [List.length_drop, hn1] at e5; subst e5)
      go_end0
      have hr5 := Kd.R_lower hR5 (Nat.zero_le _)
      have hR6 : Kd.R KBs 5 (w5.setCell ⟨g, 8, none⟩ (.slice A5 n1 c5)) 0 (fun _ => True) (.slice A5 n1 c5) (L.drop (64 * j)) := R_kept hr5 hg8 (only_set ⟨rfl, rfl, rfl, Nat.le_refl _, fun _ _ _ => rfl⟩ _ _)
      have hR6' := hR6
      rw [show L.drop (64 * j) = dR (t ++ m) by rw [dR_append, hL, ← hj2]] at hR6'
      refine ⟨rfl, only_set (HG2.out.trans (only_below hB5 _)) _ _, ⟨_, ?_, hR6'⟩⟩
      · have := blkset hg8 8 (.slice A5 n1 c5)
        rw [dig_set8 hlen, hj2, ← hL, ← hK0, ← dH_append] at this
        rw [this]
        rfl
end Go.Proofs.Ytcagmiglgpjcjaa.Sh
