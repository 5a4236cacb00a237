/-
  The walk of the reference's Sum.
-/
import Derived.Test.YtcagmiglgpjcjaaShaRt
import Derived.Test.YtcagmiglgpjcjaaShaPad
import Derived.Test.YtcagmiglgpjcjaaShaBlk
set_option linter.unusedVariables false
set_option linter.unusedSimpArgs false
namespace Go.Proofs.Ytcagmiglgpjcjaa.Sh
open Go.RowKit Go.Proofs.YtcagmiglgpjcjaaW.PrintWords Go.Proofs.YtcagmiglgpjcjaaW.PrintLast Go.Proofs.YtcagmiglgpjcjaaW.PrintMore Go.Proofs.Ytcagmiglgpjcjaa.PSa

/-- The reference's blocks: the result's, the words', the constants' (behind w2). -/
structure Rf (w w2 wr : World) (h K : List Int) : Prop where
  b1 : Below w.heap.size w w2
  lo : w.heap.size < w2.heap.size
  below : Below w2.heap.size w2 wr
  hr : wr.heap[w.heap.size]? = some (.cells (u8s z32) 24 (0, 0))
  bh : wr.heap[w2.heap.size]? = some (.cells (u32s h) 49 (0, 0))
  bk : wr.heap[w2.heap.size + 1]? = some (.cells (u32s K) 50 (0, 0))
section
variable {w w2 wr : World} {h K : List Int}
theorem Rf.start (b1 : Below w.heap.size w w2) (lo : w.heap.size < w2.heap.size) (hr : w2.heap[w.heap.size]? = some (.cells (u8s z32) 24 (0, 0))) :
    Rf w w2 ((w2.alloc (.cells (u32s z8) 49)).alloc (.cells (u32s z64) 50)) z8 z64 := by
  have s1 : (w2.alloc (.cells (u32s z8) 49)).heap.size = w2.heap.size + 1 := by show (w2.heap.push _).size = _; simp
  refine ⟨b1, lo, ((Below.refl _ _).alloc (Nat.le_refl _) _).alloc (by omega) _, blkalloc (blkalloc hr _) _, blkalloc (blk_new w2 _) _, ?_⟩
  rw [← s1]
  exact blk_new _ _
theorem Rf.on (H : Rf w w2 wr h K) {w' : World} (hb : Below wr.heap.size wr w') : Rf w w2 w' h K :=
  ⟨H.b1, H.lo, below_then H.below H.below.size hb, (hb.block _ (heap_lt H.hr)).trans H.hr, (hb.block _ (heap_lt H.bh)).trans H.bh, (hb.block _ (heap_lt H.bk)).trans H.bk⟩
theorem Rf.setH (H : Rf w w2 wr h K) (i : Nat) (x : Int) : Rf w w2 (wr.setCell ⟨w2.heap.size, i, none⟩ (.int .u32 x)) (h.set i x) K :=
  ⟨H.b1, H.lo, H.below.setCell (Nat.le_refl _) _, blkfar H.hr (by show w.heap.size ≠ w2.heap.size; have := H.lo; omega) _, by rw [← u32s_set]; exact blkset H.bh i _, blkfar H.bk (by show w2.heap.size + 1 ≠ w2.heap.size; omega) _⟩
theorem Rf.setK (H : Rf w w2 wr h K) (i : Nat) (x : Int) : Rf w w2 (wr.setCell ⟨w2.heap.size + 1, i, none⟩ (.int .u32 x)) h (K.set i x) :=
  ⟨H.b1, H.lo, H.below.setCell (by show w2.heap.size ≤ w2.heap.size + 1; omega) _, blkfar H.hr (by show w.heap.size ≠ w2.heap.size + 1; have := H.lo; omega) _, blkfar H.bh (by show w2.heap.size ≠ w2.heap.size + 1; omega) _, by rw [← u32s_set]; exact blkset H.bk i _⟩
theorem Rf.rowH (H : Rf w w2 wr h K) (h' : List Int) : Rf w w2 (wr.setRow w2.heap.size (u32s h')) h' K :=
  ⟨H.b1, H.lo, below_setRow H.below (Nat.le_refl _) _, (setRow_other wr _ _ _ (by have := H.lo; omega)).trans H.hr, setRow_heap wr _ _ _ 49 _ H.bh, (setRow_other wr _ _ _ (by omega)).trans H.bk⟩
end
theorem meas_p (ML p : Nat) (h : p + 64 ≤ ML) : ML - (intOf (Value.int IntKind.i64 ((p : Int) + 64))).toNat < ML - (intOf (Value.int IntKind.i64 (p : Int))).toNat := by
  simp only [intOf]
  omega
theorem step_skip {P : Program} {ops : Array Oper} {rest : List Oper} {o : Oper} {a : Act} {Q : Exit → Act → World → Prop} {W w1 : World} (hgd : o.guard = none) (hrun : (execOp a.eval o).run P W = .ok .skip w1) (h : wpList P ops Q rest (a.put o.dst undef) w1) : wpList P ops Q (o :: rest) a W := by
  refine wpList_plain hgd fun K hK => ?_
  unfold Oper.wp
  rw [hrun]
  exact hK _ _ h
theorem exec_load_row {P : Program} {a : Act} {o : Oper} {w : World} (ty : TypeId) (x : Operand) (ho : o.op = .load ty x) (g : Nat) (hx : a.eval x = .pointer (some ⟨g, 0, none⟩)) (t : TypeId) (cs : Array Value) (fr : Nat × Nat) (d : TypeDesc)
    (hg : w.heap[g]? = some (.cells cs t fr)) (hu : P.underlying ty = some d) (hd : (match d with | .struct _ | .array _ _ => true | _ => false) = true) (hi : (P.info? ty).map (·.size) = some cs.size) : (execOp a.eval o).run P w = .ok (.value (.agg cs)) w := by
  unfold execOp
  simp only [ho, hx, Instr.loadAt, Instr.sureAddr, Sem.run_bind, Sem.run_pure, Result.andThen_ok, run_loadVar_row w g t ty cs fr d hg hu hd hi]
theorem exec_store_row {P : Program} {a : Act} {o : Oper} {w : World} (ty : TypeId) (x y : Operand) (ho : o.op = .store ty x y) (g : Nat) (cells : Array Value) (hx : a.eval x = .pointer (some ⟨g, 0, none⟩)) (hy : a.eval y = .agg cells)
    (t : TypeId) (old : Array Value) (hg : w.heap[g]? = some (.cells old t (0, 0))) (hi : (P.info? ty).map (·.size) = some cells.size) (hold : old.size = cells.size) (h1 : cells.all (·.oneCell') = true) : (execOp a.eval o).run P w = .ok .skip (w.setRow g cells) := by
  unfold execOp
  simp only [ho, hx, hy, Instr.storeAt, Instr.sureAddr, Sem.run_bind, Sem.run_pure, Result.andThen_ok, run_storeVar_row w g t ty old cells hg hi hold h1]
set_option maxRecDepth 100000 in
set_option maxHeartbeats 40000000 in
theorem rsum9 (w : World) (t : List Int) (A : Option Addr) (c : Nat) (hC : KBs.C w A t.length t) (hc : t.length ≤ c) (hl : t.length ≤ 800000) :
    Calls Try.prog 9 #[.slice A t.length c] w fun e w' => e = .returned (.agg (u8s (sum t))) ∧ Below w.heap.size w w' := by
  have HL := Aside0.mk hl
  have HC := Aside0.mk hC
  have Hc := Aside0.mk hc
  have HP := Aside0.mk (fun W => flintref15_primes.calls 12000 64 P64 W primes_ok)
  clear hl hC hc
  go_enter Try.func9, Try.ntmps9
  go_wp2_with (first
    | ((with_reducible refine gate_dst (N := 2) rfl ?_); refine step_alloc rfl 24 rfl (u8s z32) zero24.1 ?_)
    | (go_at_call 19; refine (HP.out _).mono ?_; rintro e w2 ⟨v2, rfl, hR2, hB2⟩; obtain ⟨A2, c2, e2, hc2, hC2⟩ := Kd.R_reads hR2; subst e2)
    | ((with_reducible refine gate_dst (N := 4) rfl ?_); refine step_alloc rfl 49 rfl (u32s z8) zero49.1 ?_)
    | ((with_reducible refine gate_dst (N := 5) rfl ?_); refine step_alloc rfl 50 rfl (u32s z64) zero50.1 ?_))
  have HRf := Aside0.mk (show Rf w w2 ((w2.alloc (.cells (u32s z8) 49)).alloc (.cells (u32s z64) 50)) z8 z64 from by
    have hlt : w.heap.size < (w.alloc (.cells (u8s z32) 24)).heap.size := heap_lt (blk_new w _)
    exact Rf.start (below_then ((Below.refl _ _).alloc (Nat.le_refl _) _) (by omega) hB2) (Nat.lt_of_lt_of_le hlt hB2.size) ((hB2.block _ hlt).trans (blk_new w _)))
  generalize ((w2.alloc (.cells (u32s z8) 49)).alloc (.cells (u32s z64) 50)) = wA at *
  have HC2 := Aside0.mk hC2
  clear hR2 hB2 hC2
  go_loopw [6] (fun i wr => ∃ k : Nat, k ≤ 64 ∧ i = .int .i64 (k : Nat) ∧ Rf w w2 wr (Hl k) (Kl k)) (fun i _ => 64 - (intOf i).toNat)
  case atStart => exact ⟨0, by omega, rfl, HRf.out⟩
  case round =>
    clear HRf
    obtain ⟨k, hk, rfl, hS⟩ := hrel
    by_cases hlt : k < 64
    · obtain ⟨ad, e2, hcp⟩ := Kd.at_int (Kd.C_below HC2.out hS.below) (k : Int) (by omega) (by rw [P64_length]; omega)
      subst e2
      have HPc := Aside0.mk (show ∀ W, Below w2.heap.size w2 W → W.cell? (ad.add k) = some (.int .u64 (at32 P64 k)) from fun W hB => by
        obtain ⟨ad', e, hc⟩ := Kd.at_int (Kd.C_below HC2.out hB) (k : Int) (by omega) (by rw [P64_length]; omega)
        injection e with e
        subst e
        exact hc)
      replace hcp := HPc.out wr hS.below
      have R3 := Aside0.mk (fun W => flintref15_root.calls 100 _ _ _ W (root3 k hlt))
      have q1 : (0 : Int) ≤ (k : Int) := by omega
      have q2 : (k : Int) < 64 := by omega
      have q3 : (k : Int) < (P64.length : Int) := by rw [P64_length]; omega
      have HK := Aside0.mk (show Kl (k + 1) = (Kl k).set k (at32 Kc k) from rfl)
      have HKl := Aside0.mk (Kl_length k)
      have HHl := Aside0.mk (Hl_length k)
      have HRf := Aside0.mk hS
      clear hS
      by_cases h8 : k < 8
      · have R2 := Aside0.mk (fun W => flintref15_root.calls 100 _ _ _ W (root2 k h8))
        have HH := Aside0.mk (show Hl (k + 1) = (Hl k).set k (at32 H0 k) by rw [Hl, if_pos h8])
        have q4 : (k : Int) < 8 := by omega
        generalize at32 P64 k = pk at *
        generalize hX : at32 H0 k = xh at *
        generalize hY : at32 Kc k = xk at *
        clear hX hY
        go_wp2_with (first
          | (go_at_call 20; with_reducible refine (R2.out _).mono ?_; rintro e wa ⟨rfl, hb⟩; replace HRf := Aside0.mk (HRf.out.on hb); have hch := at32_cell HRf.out.bh (i := k) (by rw [HHl.out]; exact h8); have hfh := frozen_of_row _ _ k _ _ HRf.out.bh; clear hb R2)
          | ((with_reducible refine gate_dst (N := 26) rfl ?_); refine Kd.event_run (v := .pointer (some ⟨w2.heap.size, k, none⟩)) (w1 := wa) rfl (by go_simp) ?_)
          | ((with_reducible refine gate_store (t := 48) (p := 26) (v := .tmp 25) rfl ?_); refine step_skip (w1 := wa.setCell ⟨w2.heap.size, k, none⟩ (.int .u32 xh)) rfl (by go_simp) ?_; replace HRf := Aside0.mk (HRf.out.setH k xh); have hcp3 := HPc.out _ HRf.out.below; clear hch hfh; generalize wa.setCell ⟨w2.heap.size, k, none⟩ (.int .u32 xh) = wb at *)
          | (go_at_call 20; with_reducible refine (R3.out _).mono ?_; rintro e wc ⟨rfl, hb⟩; replace HRf := Aside0.mk (HRf.out.on hb); have hck := at32_cell HRf.out.bk (i := k) (by rw [HKl.out]; exact hlt); have hfk := frozen_of_row _ _ k _ _ HRf.out.bk; clear hb R3))
        go_roundw
        case rel => exact ⟨k + 1, by omega, by go_num, by rw [HH.out, HK.out]; exact HRf.out.setK k _⟩
        case measure => simp [intOf]; omega
      · have HH := Aside0.mk (show Hl (k + 1) = Hl k by rw [Hl, if_neg h8])
        have q4 : ¬ (k : Int) < 8 := by omega
        generalize at32 P64 k = pk at *
        generalize hY : at32 Kc k = xk at *
        clear hY
        go_wp2_with (go_at_call 20; with_reducible refine (R3.out _).mono ?_; rintro e wc ⟨rfl, hb⟩; replace HRf := Aside0.mk (HRf.out.on hb); have hck := at32_cell HRf.out.bk (i := k) (by rw [HKl.out]; exact hlt); have hfk := frozen_of_row _ _ k _ _ HRf.out.bk; clear hb R3)
        go_roundw
        case rel => exact ⟨k + 1, by omega, by go_num, by rw [HH.out, HK.out]; exact HRf.out.setK k _⟩
        case measure => simp [intOf]; omega
    · obtain rfl : k = 64 := by omega
      rw [Hl_all, Kl_all] at hS
      have hHs : Hl 64 = H0 ∧ Kl 64 = Kc := ⟨Hl_all, Kl_all⟩
      clear hHs HC2 hlt hk HP
      generalize wr = w3 at *
      have HRf := Aside0.mk hS
      have HCb := Aside0.mk (Kd.C_alloc (Kd.C_below HC.out (show Below w.heap.size w w3 from (hS.b1.trans (hS.below.mono (by have := hS.lo; omega))))) (.cells #[] 5))
      have HE := Aside0.mk (show Kd.R KBs 5 (w3.alloc (.cells #[] 5)) w3.heap.size (fun _ => True) (.slice (some ⟨w3.heap.size, 0, none⟩) 0 0) [] from
        Kd.R_of_own ⟨by simp [encs], .inr ⟨w3.heap.size, 0, #[], rfl, Nat.le_refl _, heap_alloc_new _ _, by simp, by unfold maxLen; omega, by simp, by simp [encs]⟩⟩ (fun _ _ => trivial))
      have HB := Aside0.mk (below_alloc (Below.refl w3.heap.size w3) (.cells #[] 5))
      have HLn := Aside0.mk (show (([] : List Int).length + t.length) * 1 ≤ 140737488355328 ∧ ((([] : List Int) ++ t).length + 1) * 1 ≤ 140737488355328 by have := HL.out; simp; omega)
      clear hS HC
      go_wp2_with (first
        | ((with_reducible refine gate_dst (N := 36) rfl ?_); refine Kd.R_append_rows KBs (w0 := w3) w3.heap.size rfl (.tmp 34) (.tmp 35) 23 5 (.int .u8 0) 1 rfl Try.underlying23 info5 rfl (by decide) (by omega) _ [] t _ _ _ (fun _ => True) (fun _ => False) rfl rfl HE.out HCb.out (fun _ _ h => h) (fun _ h => h.elim) (fun _ _ => trivial) HB.out HB.out.size HLn.out.1 ?_; intro v1 w4 ho hb hg hat; have HR4 := Aside0.mk ho; have HB4 := Aside0.mk hb; clear ho hb hg hat HE HCb)
        | ((with_reducible refine gate_dst (N := 38) rfl ?_); refine Kd.event_run (v := .slice (some ⟨w4.heap.size, 0, none⟩) 1 1) (w1 := w4.alloc (.cells (u8s [128]) 5)) rfl (by go_simp; rfl) ?_)
        | ((with_reducible refine gate_dst (N := 39) rfl ?_); refine Kd.R_append_rows KBs (w0 := w3) w3.heap.size rfl (.tmp 37) (.tmp 38) 23 5 (.int .u8 0) 1 rfl Try.underlying23 info5 rfl (by decide) (by omega) v1 (([] : List Int) ++ t) [128] _ _ _ (fun _ => True) (fun _ => False) rfl rfl (Kd.R_alloc HR4.out _) (C_blk (blk_new w4 _) (by decide)) (fun _ _ h => h) (fun _ h => h.elim) (fun _ _ => trivial) (HB4.out.alloc HB4.out.size _) (HB4.out.alloc HB4.out.size _).size HLn.out.2 ?_; intro v5 w5 ho hb hg hat; have HR5 := Aside0.mk ho; have HB5 := Aside0.mk hb; clear ho hb hg hat HR4 HB4))
      obtain ⟨pz, hpz, hp1, hp2⟩ : ∃ pz : Nat, padz t.length = pz ∧ (∀ j, j < pz → (t.length + 1 + j) % 64 ≠ 56) ∧ ((t.length + 1 + pz) % 64 = 56 ∧ pz < 64) := ⟨_, rfl, fun j hj => by unfold padz at hj; omega, by unfold padz; omega⟩
      have HPZ := Aside0.mk hpz
      have HP1 := Aside0.mk hp1
      have HP2 := Aside0.mk hp2
      clear hpz hp1 hp2
      go_loopw [7] (fun u wr => ∃ j : Nat, j ≤ pz ∧ Kd.R KBs 5 wr w3.heap.size (fun _ => True) u (t ++ [128] ++ List.replicate j 0) ∧ Below w3.heap.size w3 wr) (fun u _ => (match u with | .slice _ n _ => t.length + 1 + pz - n | _ => 0))
      case atStart => exact ⟨0, by omega, by have h5 := HR5.out; rw [List.nil_append] at h5; rw [List.replicate_zero, List.append_nil]; exact h5, HB5.out⟩
      case round =>
        clear HR5 HB5
        obtain ⟨j, hj, hR, hB⟩ := hrel
        obtain ⟨A7, c7, e7⟩ := Kd.R_slice hR
        obtain ⟨n7, hn7⟩ : ∃ n7, (t ++ [128] ++ List.replicate j (0 : Int)).length = n7 := ⟨_, rfl⟩
        rw [hn7] at e7
        subst e7
        have hn7' : n7 = t.length + 1 + j := by rw [← hn7]; simp; omega
        by_cases hlt : j < pz
        · obtain ⟨r, hr⟩ : ∃ r : Nat, n7 % 64 = r := ⟨_, rfl⟩
          have e1 : (n7 : Int) % 64 = (r : Int) := by omega
          have hr56 : r ≠ 56 := by rw [← hr, hn7']; exact HP1.out j hlt
          have e2 : ¬ (r : Int) = 56 := by omega
          have q1 : (0 : Int) ≤ (n7 : Int) := by omega
          have HR := Aside0.mk hR
          have HB := Aside0.mk hB
          have HX := Aside0.mk (show t ++ [128] ++ List.replicate (j + 1) (0 : Int) = (t ++ [128] ++ List.replicate j 0) ++ [0] by rw [List.replicate_succ', List.append_assoc (t ++ [128])])
          have HN := Aside0.mk (show ((t ++ [128] ++ List.replicate j (0 : Int)).length + 1) * 1 ≤ 140737488355328 ∧ n7 = t.length + 1 + j by have := HL.out; have := HP2.out.2; simp; omega)
          have HL7 := Aside0.mk hn7
          clear hR hB hr hn7 hn7'
          generalize t ++ [128] ++ List.replicate j (0 : Int) = L7 at *
          go_wp2_with (first
            | ((with_reducible refine gate_dst (N := 45) rfl ?_); refine Kd.event_run (v := .slice (some ⟨wr.heap.size, 0, none⟩) 1 1) (w1 := wr.alloc (.cells (u8s [0]) 5)) rfl (by go_simp; rfl) ?_)
            | ((with_reducible refine gate_dst (N := 46) rfl ?_); refine Kd.R_append_rows KBs (w0 := w3) w3.heap.size rfl (.tmp 44) (.tmp 45) 23 5 (.int .u8 0) 1 rfl Try.underlying23 info5 rfl (by decide) (by omega) _ L7 [0] _ _ _ (fun _ => True) (fun _ => False) rfl rfl (Kd.R_alloc HR.out _) (C_blk (blk_new wr _) (by decide)) (fun _ _ h => h) (fun _ h => h.elim) (fun _ _ => trivial) (HB.out.alloc HB.out.size _) (HB.out.alloc HB.out.size _).size HN.out.1 ?_; intro v1 w1 ho hb hg hat; obtain ⟨A1, c1, e1⟩ := Kd.R_slice ho; rw [List.length_append, HL7.out] at e1; replace e1 : v1 = .slice A1 (n7 + 1) c1 := e1; subst e1; rw [← HX.out] at ho))
          go_roundw
          case rel => exact ⟨j + 1, by omega, ho, hb⟩
          case measure => have := HN.out.2; show t.length + 1 + pz - (n7 + 1) < t.length + 1 + pz - n7; omega
        · obtain rfl : j = pz := by omega
          have e1 : ((n7 : Nat) : Int) % 64 = 56 := by have := HP2.out.1; omega
          have q1 : (0 : Int) ≤ (n7 : Int) := by omega
          have hN : IntKind.u64.wrap (IntKind.u64.wrap (t.length : Int) * 8) = 8 * (t.length : Int) := by
            have := HL.out
            simp only [IntKind.wrap_u64]
            omega
          have Hn7 := Aside0.mk (show n7 ≤ 900000 by have := HL.out; have := HP2.out.2; omega)
          have HR0 := Aside0.mk hR
          have HB0 := Aside0.mk hB
          have HLn8 := Aside0.mk hn7
          have HN2 := Aside0.mk hN
          clear hN
          have HL8 := Aside0.mk (show t ++ [128] ++ List.replicate j (0 : Int) = t ++ [128] ++ List.replicate (padz t.length) 0 by rw [HPZ.out])
          clear hR hB hn7 hn7' HP1 HP2 HPZ
          generalize t ++ [128] ++ List.replicate j (0 : Int) = L8 at *
          go_wp2
          generalize IntKind.u64.wrap (IntKind.u64.wrap (t.length : Int) * 8) = N at *
          clear e1 q1
          go_loopw [9, 7] (fun i u wr => ∃ k : Nat, k ≤ 8 ∧ i = .int .i64 (7 - (k : Int)) ∧ Kd.R KBs 5 wr w3.heap.size (fun _ => True) u (L8 ++ szs N k) ∧ Below w3.heap.size w3 wr) (fun i _ _ => (intOf i + 1).toNat)
          case atStart => exact ⟨0, by omega, rfl, by rw [szs, List.append_nil]; exact HR0.out, HB0.out⟩
          case round =>
            clear HR0 HB0
            obtain ⟨k, hk, rfl, hR, hB⟩ := hrel
            by_cases hlt : k < 8
            · obtain ⟨q, hq⟩ : ∃ q : Nat, (7 - (k : Int)) = (q : Int) := ⟨7 - k, by omega⟩
              obtain ⟨s, hs⟩ : ∃ s : Nat, 8 * q = s := ⟨_, rfl⟩
              have HX := Aside0.mk (show L8 ++ szs N (k + 1) = (L8 ++ szs N k) ++ [IntKind.u8.wrap (N / 2 ^ s)] by rw [szs, show 56 - 8 * k = s by omega, List.append_assoc])
              have HK := Aside0.mk (show (q : Int) - 1 = 7 - ((k + 1 : Nat) : Int) ∧ (q : Int) = 7 - (k : Int) by omega)
              rw [hq]
              have q1 : (0 : Int) ≤ (q : Int) := by omega
              have q2 : (0 : Int) ≤ (s : Int) := by omega
              have q4 : (s : Int) ≤ 64 := by omega
              have e1 : (8 : Int) * (q : Int) = (s : Int) := by omega
              have e2 : wrap64 (8 * (q : Int)) = (s : Int) := by unfold wrap64; omega
              have e3 : IntKind.u64.wrap (s : Int) = (s : Int) := by rw [IntKind.wrap_u64]; omega
              have e4 : wrap64 ((q : Int) - 1) = (q : Int) - 1 := by unfold wrap64; omega
              have HLN := Aside0.mk (show ((L8 ++ szs N k).length + 1) * 1 ≤ 140737488355328 by rw [List.length_append, szs_length, HLn8.out]; have := Hn7.out; omega)
              have HR := Aside0.mk hR
              have HB := Aside0.mk hB
              clear hq hs hR hB
              go_wp2_with (first
                | ((with_reducible refine gate_dst (N := 62) rfl ?_); refine Kd.event_run (v := .slice (some ⟨wr.heap.size, 0, none⟩) 1 1) (w1 := wr.alloc (.cells (u8s [N / 2 ^ s % 256]) 5)) rfl (by go_simp; rfl) ?_)
                | ((with_reducible refine gate_dst (N := 63) rfl ?_); refine Kd.R_append_rows KBs (w0 := w3) w3.heap.size rfl (.tmp 55) (.tmp 62) 23 5 (.int .u8 0) 1 rfl Try.underlying23 info5 rfl (by decide) (by omega) u7 (L8 ++ szs N k) [N / 2 ^ s % 256] _ _ _ (fun _ => True) (fun _ => False) rfl rfl (Kd.R_alloc HR.out _) (C_blk (blk_new wr _) (by simp)) (fun _ _ h => h) (fun _ h => h.elim) (fun _ _ => trivial) (HB.out.alloc HB.out.size _) (HB.out.alloc HB.out.size _).size HLN.out ?_; intro v1 w1 ho hb hg hat))
              go_roundw
              case rel => exact ⟨k + 1, by omega, by rw [← HK.out.1], by rw [HX.out, IntKind.wrap_u8]; exact ho, hb⟩
              case measure => simp [intOf] <;> (have := HK.out.2; omega)
            · obtain rfl : k = 8 := by omega
              have HPad := Aside0.mk (show L8 ++ szs N 8 = pad t by rw [HL8.out, HN2.out]; rfl)
              rw [HPad.out] at hR
              obtain ⟨Am, cm, em, hcm, hCm⟩ := Kd.R_reads hR
              subst em
              have hM64 : (pad t).length = 64 * ((pad t).length / 64) := by rw [pad_length]; unfold padz; omega
              have hMle : (pad t).length ≤ 900000 := by rw [pad_length]; have := HL.out; unfold padz; omega
              have hlt3 := heap_lt HRf.out.bh
              have hAm : ∀ ad, Am = some ad → ad.block ≠ w2.heap.size := fun ad e => by
                have hb := Kd.R_base hR
                subst e
                have h1 := hb ad.block (by simp [Value.ownBlock])
                omega
              have HRf4 := Aside0.mk (HRf.out.on hB)
              have HSum := Aside0.mk (show sum t = Os (absN Kc H0 (pad t) ((pad t).length / 64)) 32 from rfl)
              have HCm := Aside0.mk hCm
              have HAm := Aside0.mk hAm
              have HI49 := Aside0.mk (show ∀ l : List Int, l.length = 8 → (Try.prog.info? 49).map (·.size) = some (u32s l).size from fun l hl => by rw [u32s_size, hl]; exact zero49.2)
              obtain ⟨i5, hi5, _, hs5, _⟩ := info_parts info5
              clear hR hB hCm hAm HPad HL8 HLn8 Hn7 HN2 HLn HB HRf
              generalize pad t = M at *
              generalize hNB : M.length / 64 = NB at *
              have HM := Aside0.mk hM64
              generalize hML : M.length = ML at *
              go_wp2
              go_loopw [10] (fun i wr => ∃ j : Nat, j ≤ NB ∧ i = .int .i64 ((64 * j : Nat) : Int) ∧ Rf w w2 wr (absN Kc H0 M j) Kc ∧ KBs.C wr Am ML M) (fun i _ => ML - (intOf i).toNat)
              case atStart => exact ⟨0, by omega, rfl, HRf4.out, HCm.out⟩
              case round =>
                clear HRf4 HCm
                obtain ⟨j, hj, rfl, hS, hCm⟩ := hrel
                obtain ⟨p, hp⟩ : ∃ p, 64 * j = p := ⟨_, rfl⟩
                rw [hp]
                by_cases hlt : j < NB
                · obtain ⟨am, eam, _⟩ := hCm.2.2 (by omega)
                  subst eam
                  have hC4 : KBs.C wr (some (am.add p)) 64 ((M.drop p).take 64) := by
                    have h4 := Kd.C_mid (lo := p) (hi := p + 64) (c := cm) (by rw [hML]; exact hCm) (by omega) (by omega) (by omega)
                    rw [List.drop_take, show p + 64 - p = 64 by omega] at h4
                    have hl : ((M.drop p).take 64).length = 64 := by rw [List.length_take, List.length_drop]; omega
                    rw [hl, if_neg (by omega), show KBs.sz = 1 from rfl, Nat.mul_one] at h4
                    exact h4
                  have t1 : ((p : Int) + 64).toNat = p + 64 := by omega
                  have t2 : ¬ cm = p := by omega
                  have t3 : (0 : Int) ≤ (p : Int) + 64 := by omega
                  have t4 : (p : Int) + 64 ≤ (cm : Int) := by omega
                  have q1 : (0 : Int) ≤ (p : Int) := by omega
                  have q2 : (p : Int) < (ML : Int) := by omega
                  have e1 : wrap64 ((p : Int) + 64) = (p : Int) + 64 := by unfold wrap64; omega
                  have e2 : IntKind.i64.wrap ((p : Int) + 64) = (p : Int) + 64 := by rw [IntKind.wrap_i64]; omega
                  have HX := Aside0.mk (show absN Kc H0 M (j + 1) = comp (absN Kc H0 M j) Kc ((M.drop p).take 64) by rw [absN, hp])
                  have hhj : (absN Kc H0 M j).length = 8 := absN_length _ _ _ _
                  generalize absN Kc H0 M j = hj0 at *
                  have HBl := Aside0.mk (block21 wr.drew hj0 Kc ((M.drop p).take 64) (some (am.add p)) (cm - p) hhj Kc_length (Kd.C_drew hC4))
                  have hhj1 : (comp hj0 Kc ((M.drop p).take 64)).length = 8 := by rw [comp_length, hhj]
                  generalize comp hj0 Kc ((M.drop p).take 64) = hj1 at *
                  have hbh : wr.drew.heap[w2.heap.size]? = some (.cells (u32s hj0) 49 (0, 0)) := hS.bh
                  have hbk : wr.drew.heap[w2.heap.size + 1]? = some (.cells (u32s Kc) 50 (0, 0)) := hS.bk
                  have HS := Aside0.mk hS
                  have HCm := Aside0.mk hCm
                  clear hS hCm hC4
                  go_wp2
                  refine start_ (n := 9) (S := fun w' => w'.heap[w2.heap.size]? = some (.cells (u32s hj0) 49 (0, 0)) ∧ w'.heap[w2.heap.size + 1]? = some (.cells (u32s Kc) 50 (0, 0))) (ds := [8]) #[false, false, false, false, false, false, false, false, false] (by kernel_rfl) rfl rfl ⟨hbh, hbk⟩ (fun hHeld => ?_)
                  refine pure_ (i := 2) (N := some 72) (v := ?_) (a' := ?_) #[false, false, true, false, false, false, false, false, false] rfl rfl (by kernel_rfl) (fun _ _ _ h => h) (Or.inl ⟨by rfl, ?_⟩) ?_ ?_
                  rotate_left
                  · intro w'
                    go_simp
                    with_reducible rfl
                  rotate_left
                  · simp only [Act.put, List.setIfInBounds_toArray, List.set_cons_zero, List.set_cons_succ, i64_w, i32_w]
                    rfl
                  refine pure_ (i := 3) (N := some 73) (v := ?_) (a' := ?_) #[false, false, true, true, false, false, false, false, false] rfl rfl (by kernel_rfl) (fun _ _ _ h => h) (Or.inl ⟨by rfl, ?_⟩) ?_ ?_
                  rotate_left
                  · intro w'
                    go_simp
                    with_reducible rfl
                  rotate_left
                  · simp only [Act.put, List.setIfInBounds_toArray, List.set_cons_zero, List.set_cons_succ, i64_w, i32_w]
                    rfl
                  refine pure_ (i := 4) (N := some 74) (v := ?_) (a' := ?_) #[false, false, true, true, true, false, false, false, false] rfl rfl (by kernel_rfl) (fun _ _ _ h => h) (Or.inl ⟨by rfl, ?_⟩) ?_ ?_
                  rotate_left
                  · intro w'
                    go_simp
                    with_reducible rfl
                  rotate_left
                  · simp only [Act.put, List.setIfInBounds_toArray, List.set_cons_zero, List.set_cons_succ, i64_w, i32_w]
                    rfl
                  refine pure_ (i := 5) (N := some 75) (v := ?_) (a' := ?_) #[false, false, true, true, true, true, false, false, false] rfl rfl (by kernel_rfl) (fun _ _ _ h => h) (Or.inl ⟨by rfl, ?_⟩) ?_ ?_
                  rotate_left
                  · intro w'
                    go_simp
                    with_reducible rfl
                  rotate_left
                  · simp only [Act.put, List.setIfInBounds_toArray, List.set_cons_zero, List.set_cons_succ, i64_w, i32_w]
                    rfl
                  refine pure_ (i := 6) (N := some 76) (v := ?_) (a' := ?_) #[false, false, true, true, true, true, true, false, false] rfl rfl (by kernel_rfl) (fun _ _ _ h => h) (Or.inl ⟨by rfl, ?_⟩) ?_ ?_
                  rotate_left
                  · intro w'
                    go_simp
                    with_reducible rfl
                  rotate_left
                  · simp only [Act.put, List.setIfInBounds_toArray, List.set_cons_zero, List.set_cons_succ, i64_w, i32_w]
                    rfl
                  refine take_ (i := 0) (N := some 70) (v := ?_) (a' := ?_) #[true, false, true, true, true, true, true, false, false] rfl rfl (by kernel_rfl) (fun _ _ _ h => h) (Or.inl ⟨by rfl, ?_⟩) hHeld ?_ ?_
                  rotate_left
                  · rintro w' ⟨s0, s1⟩
                    refine exec_load_row 49 (.tmp 4) ?_ w2.heap.size ?_ 49 (u32s hj0) (0, 0) _ s0 Try.underlying49 rfl (HI49.out hj0 hhj) <;> rfl
                  rotate_left
                  · simp only [Act.put, List.setIfInBounds_toArray, List.set_cons_zero, List.set_cons_succ, i64_w, i32_w]
                    rfl
                  refine take_ (i := 1) (N := some 71) (v := ?_) (a' := ?_) #[true, true, true, true, true, true, true, false, false] rfl rfl (by kernel_rfl) (fun _ _ _ h => h) (Or.inl ⟨by rfl, ?_⟩) hHeld ?_ ?_
                  rotate_left
                  · rintro w' ⟨s0, s1⟩
                    refine exec_load_row 50 (.tmp 5) ?_ (w2.heap.size + 1) ?_ 50 (u32s Kc) (0, 0) _ s1 Try.underlying50 rfl zero50.2 <;> rfl
                  rotate_left
                  · simp only [Act.put, List.setIfInBounds_toArray, List.set_cons_zero, List.set_cons_succ, i64_w, i32_w]
                    rfl
                  refine one_ (i := 7) (N := some 77) #[true, true, true, true, true, true, true, true, false] rfl rfl (by kernel_rfl) (by decide) (fun K hK => ?_)
                  refine goes_ Try.func21 (by kernel_rfl) rfl #[.agg (u32s hj0), .agg (u32s Kc), .slice (some (am.add p)) 64 (cm - p)] (by rfl) rfl rfl (by simp only [List.map_toArray, List.map_cons, List.map_nil]; rfl) ?_
                  refine Calls.mono (HBl.out) ?_
                  rintro e w5 ⟨rfl, hB5⟩
                  refine ⟨_, rfl, ?_⟩
                  refine hK.out _ _ ⟨(hB5.block _ (heap_lt hbh)).trans hbh, (hB5.block _ (heap_lt hbk)).trans hbk⟩ (fun hHeld => ?_)
                  clear hK K
                  refine norm_ (a' := ?_) ?_ ?_
                  rotate_left
                  · show Act.put _ (some 77) _ = _
                    simp only [Act.put, List.setIfInBounds_toArray, List.set_cons_zero, List.set_cons_succ, i64_w, i32_w]
                    rfl
                  refine last_ (i := 8) (N := none) #[true, true, true, true, true, true, true, true, true] rfl rfl (by kernel_rfl) (by decide) (fun K hK => ?_)
                  refine skip_ (w1 := ?_) (by rfl) rfl ?_ ?_
                  rotate_left
                  · refine exec_store_row 49 (.tmp 4) (.tmp 77) ?_ w2.heap.size (u32s hj1) ?_ ?_ 49 (u32s hj0) ((hB5.block _ (heap_lt hbh)).trans hbh) (HI49.out hj1 hhj1) (by rw [u32s_size, u32s_size, hhj, hhj1]) (u32s_one hj1) <;> rfl
                  refine hK.out _ _ ?_
                  clear hK K
                  refine done_ (by kernel_rfl) ?_

                  have HRf5 := Aside0.mk ((HS.out.on (show Below wr.heap.size wr w5 from ⟨hB5.os, hB5.tape, hB5.output, hB5.size, hB5.block⟩)).rowH hj1)
                  have HC5 := Aside0.mk (show KBs.C (w5.setRow w2.heap.size (u32s hj1)) (some am) ML M from Kd.C_keep 0 (Kd.C_below (Kd.C_drew HCm.out) hB5) ⟨by rw [size_setRow]; exact Nat.le_refl _, fun i _ hne _ => setRow_other w5 _ i _ hne⟩ (fun ad e _ => HAm.out ad e))
                  clear hbh hbk HBl HS HCm hB5 hHeld
                  generalize w5.setRow w2.heap.size (u32s hj1) = w6 at *
                  have Hp := Aside0.mk (show ((64 * (j + 1) : Nat) : Int) = (p : Int) + 64 ∧ j + 1 ≤ NB ∧ p + 64 ≤ ML by omega)
                  clear t1 t2 t3 t4 q2 hp hlt hj
                  go_wp2
                  go_roundw
                  case rel => exact ⟨j + 1, Hp.out.2.1, by rw [Hp.out.1], by rw [HX.out]; exact HRf5.out, HC5.out⟩
                  case measure => exact meas_p _ _ Hp.out.2.2
                · obtain rfl : j = NB := by omega
                  have hMp : p = ML := by rw [← hp]; have := HM.out; omega
                  subst hMp
                  have hAl : (absN Kc H0 M j).length = 8 := absN_length _ _ _ _
                  have HRf6 := Aside0.mk hS
                  clear hS hCm HAm HM hp
                  have q1 : ¬ (p : Int) < (p : Int) := by omega
                  generalize absN Kc H0 M j = D at *
                  go_wp2_with ((with_reducible refine gate_dst (N := 11) rfl ?_); refine step_alloc rfl 24 rfl (u8s z32) zero24.1 ?_)
                  have hq := blk_new wr (.cells (u8s z32) 24)
                  have HRfA := Aside0.mk (HRf6.out.on ((Below.refl _ _).alloc (Nat.le_refl _) (.cells (u8s z32) 24)))
                  have hlo : w2.heap.size < wr.heap.size := heap_lt HRf6.out.bh
                  have hlo0 : w.heap.size < wr.heap.size := heap_lt HRf6.out.hr
                  clear HRf6 q1
                  generalize wr.alloc (.cells (u8s z32) 24) = wA at *
                  generalize wr.heap.size = q at *
                  have HQ := Aside0.mk hq
                  clear hq
                  go_loopw [12] (fun i wr => ∃ k : Nat, k ≤ 32 ∧ i = .int .i64 (k : Nat) ∧ Below q wA wr ∧ wr.heap[q]? = some (.cells (u8s (Os D k)) 24 (0, 0))) (fun i _ => 32 - (intOf i).toNat)
                  case atStart => exact ⟨0, by omega, rfl, Below.refl _ _, HQ.out⟩
                  case round =>
                    obtain ⟨k, hk, rfl, hB, hQ⟩ := hrel
                    by_cases hlt : k < 32
                    · obtain ⟨a, ha⟩ : ∃ a : Nat, k / 4 = a := ⟨_, rfl⟩
                      obtain ⟨b, hb⟩ : ∃ b : Nat, k % 4 = b := ⟨_, rfl⟩
                      obtain ⟨s, hs⟩ : ∃ s : Nat, 24 - 8 * b = s := ⟨_, rfl⟩
                      have e1 : (k : Int) / 4 = (a : Int) := by omega
                      have e2 : (k : Int) % 4 = (b : Int) := by omega
                      have e3 : (24 : Int) - 8 * (b : Int) = (s : Int) := by omega
                      have q1 : (0 : Int) ≤ (k : Int) := by omega
                      have q2 : (k : Int) < 32 := by omega
                      have q3 : (0 : Int) ≤ (a : Int) := by omega
                      have q4 : (a : Int) < 8 := by omega
                      have q5 : (0 : Int) ≤ (s : Int) := by omega
                      have q6 : (s : Int) ≤ 32 := by omega
                      have e4 : IntKind.u64.wrap (s : Int) = (s : Int) := by rw [IntKind.wrap_u64]; omega
                      have hca : wr.cell? ⟨w2.heap.size, a, none⟩ = some (.int .u32 (at32 D a)) := at32_cell ((hB.block _ hlo).trans HRfA.out.bh) (by omega)
                      have hcq := at8_cell hQ (i := k) (by rw [Os_length]; omega)
                      have hfq := frozen_of_row wr q k _ _ hQ
                      have HX := Aside0.mk (show Os D (k + 1) = (Os D k).set k (IntKind.u8.wrap (at32 D a / 2 ^ s)) by rw [Os, ob, ha, hb, hs])
                      have HB := Aside0.mk hB
                      have HQ2 := Aside0.mk hQ
                      clear hB hQ hs ha hb
                      generalize at32 D a = x at *
                      generalize at32 (Os D k) k = y at *
                      go_wp2
                      go_roundw
                      case rel => exact ⟨k + 1, by omega, by go_num, HB.out.setCell (Nat.le_refl q) _, by rw [HX.out, ← u8s_set, IntKind.wrap_u8]; exact blkset HQ2.out k _⟩
                      case measure => simp [intOf]; omega
                    · obtain rfl : k = 32 := by omega
                      have HI := Aside0.mk (show ∀ l : List Int, l.length = 32 → (Try.prog.info? 24).map (·.size) = some (u8s l).size from fun l hl => by rw [u8s_size, hl]; exact zero24.2)
                      have hol := Os_length D 32
                      have HB := Aside0.mk hB
                      have HQ2 := Aside0.mk hQ
                      have HR2 := Aside0.mk ((hB.block _ hlo0).trans HRfA.out.hr)
                      have HBw := Aside0.mk (show Below w.heap.size w wA from HRfA.out.b1.trans (HRfA.out.below.mono (by have := HRfA.out.lo; omega)))
                      generalize Os D 32 = O at *
                      clear hB hQ
                      go_wp2_with (first
                        | ((with_reducible refine gate_dst (N := 95) rfl ?_); refine wpList_load_row rfl 24 (.tmp 11) rfl q rfl 24 (u8s O) (0, 0) _ HQ2.out Try.underlying24 rfl (HI.out O hol) ?_)
                        | ((with_reducible refine gate_store (t := 24) (p := 2) (v := .tmp 95) rfl ?_); refine wpList_store_row rfl 24 (.tmp 2) (.tmp 95) rfl w.heap.size (u8s O) rfl rfl 24 (u8s z32) HR2.out (HI.out O hol) (by rw [u8s_size, u8s_size, hol]; rfl) (u8s_one O) ?_))
                      (try simp only [Exit.inBlock, Exit.then])
                      refine bodyPost_ret (results_cell_row rfl _ _ w.heap.size 24 (u8s O) (0, 0) _ rfl (setRow_heap wr _ _ _ 24 _ HR2.out) Try.underlying24 rfl (HI.out O hol)) rfl ?_
                      exact ⟨by rw [HSum.out], below_setRow (HBw.out.trans (HB.out.mono (by omega))) (Nat.le_refl _) _⟩
end Go.Proofs.Ytcagmiglgpjcjaa.Sh
