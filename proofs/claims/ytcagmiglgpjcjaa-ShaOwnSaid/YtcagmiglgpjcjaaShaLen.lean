/-
  The walk of the law ShaLengths.
-/
import Derived.Test.YtcagmiglgpjcjaaShaKn
import Derived.Test.YtcagmiglgpjcjaaShaRef
set_option linter.unusedVariables false
set_option linter.unusedSimpArgs false
namespace Go.Proofs.Ytcagmiglgpjcjaa.Sh
open Go.RowKit Go.Proofs.YtcagmiglgpjcjaaW.PrintWords Go.Proofs.YtcagmiglgpjcjaaW.PrintLast Go.Proofs.YtcagmiglgpjcjaaW.PrintMore Go.Proofs.Ytcagmiglgpjcjaa.PSa

/-- A number's rest, without its sign. -/
theorem absmod (n k : Int) (hk : 0 < k) (hk2 : k ≤ 1000) : ∃ r : Int, Int.tmod n k = r ∧ -k < r ∧ r < k := ⟨_, rfl, by
  have h1 := Int.natAbs_tmod n k
  have h2 := Nat.mod_lt n.natAbs (show 0 < k.natAbs by omega)
  omega, by
  have h1 := Int.natAbs_tmod n k
  have h2 := Nat.mod_lt n.natAbs (show 0 < k.natAbs by omega)
  omega⟩
theorem exec_slice {P : Program} {a : Act} {o : Oper} {w : World} (t : TypeId) (x : Operand) (lo hi mx : Option Operand) (ho : o.op = .slice t x lo hi mx) {e : TypeId} (hu : P.underlying t = some (.slice e)) {vx : Value} {vl vh vm : Option Value} {v : Value} (h : (Instr.slice t vx vl vh vm).run P w = .ok v w) (hx : a.eval x = vx) (hl : lo.map a.eval = vl) (hh : hi.map a.eval = vh) (hm : mx.map a.eval = vm) : (execOp a.eval o).run P w = .ok (.value v) w := by
  subst hx
  subst hl
  subst hh
  subst hm
  unfold execOp
  simp only [ho]
  simp only [Instr.sliceAt, Sem.run_bind, run_underlying hu, Result.andThen_ok, h, Sem.run_pure]
theorem made_u8 (N : Nat) (h : N ≤ 1000000) (W : World) : (Instr.makeSlice 23 (.int .i64 (N : Int)) (.int .i64 (N : Int))).run Try.prog W = .ok (.slice (some ⟨W.heap.size, 0, none⟩) N N) (W.alloc (.cells (u8s (List.replicate N 0)) 5)) := by
  have hm : madeCells #[Value.int .u8 0] N = u8s (List.replicate N 0) := by
    apply Array.ext_getElem?
    intro i
    by_cases hi : i < N
    · simp [madeCells, u8s, hi, Nat.mod_one]
    · simp [madeCells, u8s, hi]
  rw [print_make (P := Try.prog) 23 5 .u8 1 Try.underlying23 info5 (by decide) N (by omega) W, hm]
/-- The filling of the bytes. -/
def fl (c : Int) (N : Nat) : Nat → List Int
  | 0 => List.replicate N 0
  | k + 1 => (fl c N k).set k ((c + (k : Int)) % 256)
theorem fl_length (c : Int) (N : Nat) : ∀ k, (fl c N k).length = N
  | 0 => by simp [fl]
  | k + 1 => by rw [fl, List.length_set, fl_length c N k]
set_option maxRecDepth 100000 in
set_option maxHeartbeats 40000000 in
theorem lengths3 (w : World) (n c cut : Int) :
    Calls Try.prog 3 #[.int .i64 n, .int .u8 c, .int .i64 cut] w fun e w' => e = .returned (.bool true) ∧ Below w.heap.size w w' := by
  have HK := Aside0.mk (fun W => known7 W)
  obtain ⟨r, hr, hr1, hr2⟩ := absmod n 300 (by decide) (by decide)
  obtain ⟨N, hN, hNl⟩ : ∃ N : Nat, (r = (N : Int) ∨ (r = -(N : Int) ∧ 0 < N)) ∧ N < 300 := ⟨r.natAbs, by omega, by omega⟩
  obtain ⟨s, hs, hs1, hs2⟩ := absmod cut ((N : Int) + 1) (by omega) (by omega)
  obtain ⟨C, hC, hCl⟩ : ∃ C : Nat, (s = (C : Int) ∨ (s = -(C : Int) ∧ 0 < C)) ∧ C ≤ N := ⟨s.natAbs, by omega, by omega⟩
  clear hr1 hr2 hs1 hs2
  have e1 : wrap64 ((N : Int) + 1) = (N : Int) + 1 := by unfold wrap64; omega
  have e2 : ¬ (N : Int) + 1 = 0 := by omega
  have e3 : ¬ (N : Int) + 1 = -1 := by omega
  have hmk := made_u8 N (by omega)
  obtain ⟨i5, hi5, _, hs5, _⟩ := info_parts info5
  rcases hN with hN | ⟨hN, hN0⟩ <;> rcases hC with hC | ⟨hC, hC0⟩ <;> subst hN <;> subst hC <;> (
    go_enter Try.func3, Try.ntmps3
    go_wp2_with (go_at_call 7; refine (HK.out _).mono ?_; rintro e w1 ⟨rfl, hb1⟩)
    have hq := blk_new w1 (.cells (u8s (List.replicate N 0)) 5)
    have hbA := hb1.alloc hb1.size (.cells (u8s (List.replicate N 0)) 5)
    have hlo : w.heap.size ≤ w1.heap.size := hb1.size
    generalize w1.alloc (.cells (u8s (List.replicate N 0)) 5) = wA at *
    generalize w1.heap.size = q at *
    go_loopw [8] (fun i wr => ∃ k : Nat, k ≤ N ∧ i = .int .i64 (k : Nat) ∧ Below w.heap.size w wr ∧ wr.heap[q]? = some (.cells (u8s (fl c N k)) 5 (0, 0))) (fun i _ => N - (intOf i).toNat)
    case atStart => exact ⟨0, by omega, rfl, hbA, hq⟩
    case round =>
      clear hbA hq hb1
      obtain ⟨k, hk, rfl, hB, hQ⟩ := hrel
      by_cases hlt : k < N
      · have hcq := at8_cell hQ (i := k) (by rw [fl_length]; omega)
        have hfq := frozen_of_row wr q k _ _ hQ
        have HX := Aside0.mk (show fl c N (k + 1) = (fl c N k).set k ((c + (k : Int)) % 256) from rfl)
        have q1 : (0 : Int) ≤ (k : Int) := by omega
        have q2 : (k : Int) < (N : Int) := by omega
        have HB := Aside0.mk hB
        have HQ := Aside0.mk hQ
        clear hB hQ
        generalize at32 (fl c N k) k = y at *
        go_wp2
        go_roundw
        case rel => exact ⟨k + 1, by omega, by go_num, HB.out.setCell hlo _, by rw [HX.out, ← u8s_set]; exact (blkset HQ.out k _)⟩
        case measure => simp [intOf]; omega
      · obtain rfl : k = N := by omega
        generalize hL : fl c k k = L at *
        have hLl : L.length = k := by rw [← hL, fl_length]
        have hCC := C_blk hQ (by omega)
        rw [hLl] at hCC
        have hcut1 := cut_to (P := Try.prog) 23 5 .i64 Try.underlying23 hi5 (some ⟨q, 0, none⟩) k k (C : Int) (by omega) (by omega) (Nat.le_refl _)
        obtain ⟨A5, hcut2, hC5⟩ : ∃ A5, (∀ W : World, (Instr.slice 23 (.slice (some ⟨q, 0, none⟩) k k) (some (.int .i64 (C : Int))) none none).run Try.prog W = .ok (.slice A5 (k - C) (k - C)) W) ∧ (∀ W : World, KBs.C W (some ⟨q, 0, none⟩) k L → KBs.C W A5 (L.drop C).length (L.drop C)) :=
          ⟨_, cut_from (P := Try.prog) 23 5 .i64 Try.underlying23 hi5 1 hs5 (some ⟨q, 0, none⟩) k k (C : Int) (by omega) (by omega), fun W hC => Kd.C_drop (m := C) (c := k) (by rw [hLl]; exact hC) (by omega) (by omega)⟩
        have HCk := Aside0.mk (show ∀ W : World, Below wr.heap.size wr W → KBs.C W (some ⟨q, 0, none⟩) k L from fun W hb => Kd.C_below hCC hb)
        have HB := Aside0.mk hB
        have hf : L.take C ++ L.drop C = L := List.take_append_drop C L
        have HX8 := Aside0.mk (show ∀ W : World, W = wr.drew.alloc (.cells #[.slice (some ⟨q, 0, none⟩) C k, .slice A5 (k - C) (k - C)] 23) → Calls Try.prog 8 #[.slice (some ⟨wr.heap.size, 0, none⟩) 2 2] W fun e w' => e = .returned (.agg (u8s (sum L))) ∧ Below W.heap.size W w' from fun W hW => by
          have hbW : Below wr.heap.size wr W := by rw [hW]; exact (Below.refl wr.heap.size wr).drew.alloc (Nat.le_refl _) _
          have h1 := HCk.out W hbW
          have hk1 := Kd.C_take (m := C) (show KBs.C W (some ⟨q, 0, none⟩) L.length L by rw [hLl]; exact h1) (by omega)
          have hk2 := hC5 W h1
          have l1 : (L.take C).length = C := by rw [List.length_take]; omega
          have l2 : (L.drop C).length = k - C := by rw [List.length_drop]; omega
          have hk : KR.C W (some ⟨wr.heap.size, 0, none⟩) 2 [L.take C, L.drop C] := by
            refine KR_two (A := some ⟨q, 0, none⟩) (c := k) (A' := A5) (c' := k - C) (fr := (0, 0)) ?_ (by omega) hk1 (by omega) hk2
            rw [hW, l1, l2]
            exact blk_new wr.drew _
          have hs := ssum8 W [L.take C, L.drop C] _ 2 2 hk rfl (by decide) (by simp; omega)
          rw [show [L.take C, L.drop C].flatten = L by simp] at hs
          exact hs)
        have HX9 := Aside0.mk (show ∀ W : World, Below wr.heap.size wr W → Calls Try.prog 9 #[.slice (some ⟨q, 0, none⟩) k k] W fun e w' => e = .returned (.agg (u8s (sum L))) ∧ Below W.heap.size W w' from fun W hb => by
          have h9 := rsum9 W L (some ⟨q, 0, none⟩) k (by rw [hLl]; exact HCk.out W hb) (by omega) (by omega)
          rw [hLl] at h9
          exact h9)
        have HBB := Aside0.mk (show ∀ W : World, Below (wr.drew.alloc (.cells #[.slice (some ⟨q, 0, none⟩) C k, .slice A5 (k - C) (k - C)] 23)).heap.size (wr.drew.alloc (.cells #[.slice (some ⟨q, 0, none⟩) C k, .slice A5 (k - C) (k - C)] 23)) W → Below wr.heap.size wr W from fun W hb => below_then ((Below.refl wr.heap.size wr).drew.alloc (Nat.le_refl _) _) (by simp) hb)
        have heq := fun W => eq25 (sum L) (sum L) (sum_length _) (sum_length _) W
        have q1 : (0 : Int) ≤ (C : Int) := by omega
        clear hB hQ hCC hC5 hf hL
        generalize sum L = O at *
        go_wp2
        refine start_ (n := 12) (S := fun w' => True) (ds := []) #[false, false, false, false, false, false, false, false, false, false, false, false] (by kernel_rfl) rfl rfl trivial (fun hHeld => ?_)
        refine pure_ (i := 0) (N := some 39) (v := ?_) (a' := ?_) #[true, false, false, false, false, false, false, false, false, false, false, false] rfl rfl (by kernel_rfl) (fun _ _ _ h => h) (Or.inl ⟨by rfl, ?_⟩) ?_ ?_
        rotate_left
        · intro w'
          go_simp
          with_reducible rfl
        rotate_left
        · simp only [Act.put, List.setIfInBounds_toArray, List.set_cons_zero, List.set_cons_succ, i64_w, i32_w]
          rfl
        refine pure_ (i := 1) (N := some 40) (v := ?_) (a' := ?_) #[true, true, false, false, false, false, false, false, false, false, false, false] rfl rfl (by kernel_rfl) (fun _ _ _ h => h) (Or.inl ⟨by rfl, ?_⟩) ?_ ?_
        rotate_left
        · intro w'
          go_simp
          with_reducible rfl
        rotate_left
        · simp only [Act.put, List.setIfInBounds_toArray, List.set_cons_zero, List.set_cons_succ, i64_w, i32_w]
          rfl
        refine pure_ (i := 2) (N := some 41) (v := ?_) (a' := ?_) #[true, true, true, false, false, false, false, false, false, false, false, false] rfl rfl (by kernel_rfl) (fun _ _ _ h => h) (Or.inl ⟨by rfl, ?_⟩) ?_ ?_
        rotate_left
        · intro w'
          refine (exec_slice 23 (.tmp 39) none (some (.tmp 40)) none ?_ Try.underlying23 (hcut1 w') ?_ ?_ ?_ ?_).trans ?_ <;> first | (with_reducible rfl) | rfl
        rotate_left
        · simp only [Act.put, List.setIfInBounds_toArray, List.set_cons_zero, List.set_cons_succ, i64_w, i32_w]
          rfl
        refine pure_ (i := 3) (N := some 42) (v := ?_) (a' := ?_) #[true, true, true, true, false, false, false, false, false, false, false, false] rfl rfl (by kernel_rfl) (fun _ _ _ h => h) (Or.inl ⟨by rfl, ?_⟩) ?_ ?_
        rotate_left
        · intro w'
          go_simp
          with_reducible rfl
        rotate_left
        · simp only [Act.put, List.setIfInBounds_toArray, List.set_cons_zero, List.set_cons_succ, i64_w, i32_w]
          rfl
        refine pure_ (i := 4) (N := some 43) (v := ?_) (a' := ?_) #[true, true, true, true, true, false, false, false, false, false, false, false] rfl rfl (by kernel_rfl) (fun _ _ _ h => h) (Or.inl ⟨by rfl, ?_⟩) ?_ ?_
        rotate_left
        · intro w'
          go_simp
          with_reducible rfl
        rotate_left
        · simp only [Act.put, List.setIfInBounds_toArray, List.set_cons_zero, List.set_cons_succ, i64_w, i32_w]
          rfl
        refine pure_ (i := 5) (N := some 44) (v := ?_) (a' := ?_) #[true, true, true, true, true, true, false, false, false, false, false, false] rfl rfl (by kernel_rfl) (fun _ _ _ h => h) (Or.inl ⟨by rfl, ?_⟩) ?_ ?_
        rotate_left
        · intro w'
          refine (exec_slice 23 (.tmp 42) (some (.tmp 43)) none none ?_ Try.underlying23 (hcut2 w') ?_ ?_ ?_ ?_).trans ?_ <;> first | (with_reducible rfl) | rfl
        rotate_left
        · simp only [Act.put, List.setIfInBounds_toArray, List.set_cons_zero, List.set_cons_succ, i64_w, i32_w]
          rfl
        refine pure_ (i := 8) (N := some 47) (v := ?_) (a' := ?_) #[true, true, true, true, true, true, false, false, true, false, false, false] rfl rfl (by kernel_rfl) (fun _ _ _ h => h) (Or.inl ⟨by rfl, ?_⟩) ?_ ?_
        rotate_left
        · intro w'
          go_simp
          with_reducible rfl
        rotate_left
        · simp only [Act.put, List.setIfInBounds_toArray, List.set_cons_zero, List.set_cons_succ, i64_w, i32_w]
          rfl
        refine one_ (i := 6) (N := some 45) #[true, true, true, true, true, true, true, false, true, false, false, false] rfl rfl (by kernel_rfl) (by decide) (fun K hK => ?_)
        refine value_ (w1 := ?_) (v := ?_) (by rfl) rfl ?_ ?_
        rotate_left 2
        · go_simp
          constructor
          · rfl
          · rfl
        refine hK.out _ _ trivial (fun hHeld => ?_)
        clear hK K
        refine norm_ (a' := ?_) ?_ ?_
        rotate_left
        · show Act.put _ (some 45) _ = _
          simp only [Act.put, List.setIfInBounds_toArray, List.set_cons_zero, List.set_cons_succ, i64_w, i32_w]
          rfl
        refine one_ (i := 7) (N := some 46) #[true, true, true, true, true, true, true, true, true, false, false, false] rfl rfl (by kernel_rfl) (by decide) (fun K hK => ?_)
        refine goes_ Try.func8 (by kernel_rfl) rfl #[.slice (some ⟨wr.heap.size, 0, none⟩) 2 2] (by rfl) rfl rfl (by simp only [List.map_toArray, List.map_cons, List.map_nil]; rfl) ?_
        refine Calls.mono (HX8.out _ rfl) ?_
        rintro e w5 ⟨rfl, hB5⟩
        refine ⟨_, rfl, ?_⟩
        refine hK.out _ _ trivial (fun hHeld => ?_)
        clear hK K
        refine norm_ (a' := ?_) ?_ ?_
        rotate_left
        · show Act.put _ (some 46) _ = _
          simp only [Act.put, List.setIfInBounds_toArray, List.set_cons_zero, List.set_cons_succ, i64_w, i32_w]
          rfl
        refine one_ (i := 9) (N := some 48) #[true, true, true, true, true, true, true, true, true, true, false, false] rfl rfl (by kernel_rfl) (by decide) (fun K hK => ?_)
        refine goes_ Try.func9 (by kernel_rfl) rfl #[.slice (some ⟨q, 0, none⟩) k k] (by rfl) rfl rfl (by simp only [List.map_toArray, List.map_cons, List.map_nil]; rfl) ?_
        refine Calls.mono (HX9.out _ (HBB.out _ hB5)) ?_
        rintro e w6 ⟨rfl, hB6⟩
        refine ⟨_, rfl, ?_⟩
        refine hK.out _ _ trivial (fun hHeld => ?_)
        clear hK K
        refine norm_ (a' := ?_) ?_ ?_
        rotate_left
        · show Act.put _ (some 48) _ = _
          simp only [Act.put, List.setIfInBounds_toArray, List.set_cons_zero, List.set_cons_succ, i64_w, i32_w]
          rfl
        refine pure_ (i := 10) (N := some 49) (v := ?_) (a' := ?_) #[true, true, true, true, true, true, true, true, true, true, true, false] rfl rfl (by kernel_rfl) (fun _ _ _ h => h) (Or.inl ⟨by rfl, ?_⟩) ?_ ?_
        rotate_left
        · intro w'
          go_simp
          with_reducible rfl
        rotate_left
        · simp only [Act.put, List.setIfInBounds_toArray, List.set_cons_zero, List.set_cons_succ, i64_w, i32_w]
          rfl
        refine pure_ (i := 11) (N := some 6) (v := ?_) (a' := ?_) #[true, true, true, true, true, true, true, true, true, true, true, true] rfl rfl (by kernel_rfl) (fun _ _ _ h => h) (Or.inl ⟨by rfl, ?_⟩) ?_ ?_
        rotate_left
        · intro w'
          go_simp
          with_reducible rfl
        rotate_left
        · simp only [Act.put, List.setIfInBounds_toArray, List.set_cons_zero, List.set_cons_succ, i64_w, i32_w]
          rfl
        refine done_ (by kernel_rfl) ?_
        go_wp2
        go_ret
        have b5 := below_then HB.out HB.out.size (HBB.out _ hB5)
        exact ⟨by first | rfl | simp, below_then b5 b5.size hB6⟩)
end Go.Proofs.Ytcagmiglgpjcjaa.Sh
