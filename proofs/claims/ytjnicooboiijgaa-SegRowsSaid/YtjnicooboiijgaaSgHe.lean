/-
  seg.Heads.
-/
import Derived.Test.YtjnicooboiijgaaSgRe
import Derived.Test.YtjnicooboiijgaaSgRz
set_option linter.unusedVariables false
set_option linter.unusedSimpArgs false
namespace Go.Proofs.Ytjnicooboiijgaa.Sg
open Go.RowKit Go.Proofs.YtjnicooboiijgaaW.PrintWords Go.Proofs.YtjnicooboiijgaaW.PrintLast Go.Proofs.YtjnicooboiijgaaW.PrintMore Go.Proofs.Ytjnicooboiijgaa.PSg Go.Proofs.Ytjnicooboiijgaa.Gf Go.Proofs.Ytjnicooboiijgaa.Rs
theorem num45C (w : World) (base : Nat) (v : Value) (xs : List Int) (x : Nat) (K : Nat) (r : List Int) (hR : KB.R 5 w base (fun _ => True) v xs) (h : flintref1_Number.f K xs (x : Int) = some r) (hx : x < 18446744073709551616) :
    Calls Try.prog 45 #[v, .int .u64 (IntKind.u64.wrap (x : Int))] w fun e w' => ∃ v', e = .returned v' ∧ KB.R 5 w' w.heap.size (fun _ => True) v' r ∧ Below w.heap.size w w' := by
  rw [u64wrap x hx]
  obtain ⟨A, c, rfl, hc, hC⟩ := Kd.R_reads hR
  refine num45 w w A c xs x K r hC hc (fun e => ?_) (Below.refl _ _) h
  obtain ⟨_, inner, ho, _⟩ := hR
  rcases ho.2 with ⟨ev, _⟩ | ⟨b, cap, cur, ev, _⟩
  · injection ev
  · subst e
    cases ev
def heads4.T4 : Bool × List (List Nat × List Nat) := (true, [([], []), ([0], [0]), ([1], [1]), ([2], [2]), ([], []), ([4], [4]), ([5], [5]), ([3, 6, 3], [3, 6]), ([], []), ([8], [8]), ([9], [9]), ([7, 10, 7], [7, 10]), ([11, 11, 0, 1, 2, 3, 4, 5, 6, 7, 8, 9, 10, 11], [11])])
def heads4.B4 : List Nat := [0, 1, 3, 7, 0, 16, 48, 127, 0, 256, 768, 2047, 4095]
theorem heads4.tab4 : rtab .any (opsOf Try.f31 4) = heads4.T4 := by kernel_rfl
theorem heads4.bits4 : waitsOk heads4.T4.2 heads4.B4 = true := by kernel_rfl
def heads5.T5 : Bool × List (List Nat × List Nat) := (true, [([], []), ([], []), ([], []), ([2], [2]), ([], []), ([4], [4]), ([5], [5]), ([3, 6], [3, 6]), ([0, 1, 7, 7], [0, 1, 7]), ([8, 8, 0, 1, 2, 3, 4, 5, 6, 7, 8], [8]), ([9, 0, 1, 2, 3, 4, 5, 6, 7, 8, 9], [])])
def heads5.B5 : List Nat := [0, 0, 0, 4, 0, 16, 48, 124, 255, 511, 1023]
theorem heads5.tab5 : rtab .any (opsOf Try.f31 5) = heads5.T5 := by kernel_rfl
theorem heads5.bits5 : waitsOk heads5.T5.2 heads5.B5 = true := by kernel_rfl
set_option maxHeartbeats 8000000 in
set_option maxRecDepth 100000 in
theorem heads31_ok (w : World) {k p s : Nat} (hf : Fits k p s) (seg : Nat) (hseg : seg < 18446744073709551616) {t1 t2 t3 : List Int} {K : Nat} (h1 : flintref1_Number.f K [] (k : Int) = some t1) (h2 : flintref1_Number.f K t1 (p : Int) = some t2) (h3 : flintref1_Number.f K t2 (s : Int) = some t3) (hl : t3.length ≤ 6) (hb3 : bytes t3 = true) :
    Calls Try.prog 31 #[.agg #[.int .i64 k, .int .i64 p, .int .i64 s], .int .u64 seg] w fun e w' => ∃ v hs, e = .returned (.tuple #[v, .int .i64 0]) ∧ KH.R 37 w' w.heap.size (fun _ => True) v hs ∧ OwnM w' w.heap.size hs (pagesL s seg 0 (List.replicate (k + 2) t3)) ∧ Below w.heap.size w w' := by
  have hk2 := hf.k2
  have hp2 := hf.p2
  have hs2 := hf.s2
  have HC := Aside0.mk (fun (W : World) => check22 W hf)
  have HH := Aside0.mk (heap_alloc_last w (.cells #[.int .i64 k, .int .i64 p, .int .i64 s] 23))
  have HB := Aside0.mk (below_alloc (Below.refl w.heap.size w) (.cells #[.int .i64 k, .int .i64 p, .int .i64 s] 23))
  have HN1 := Aside0.mk (fun (W : World) => num45C W W.heap.size (.slice none 0 0) [] k K t1 (Kd.R_nil _ _ _ _ _) h1 (by omega))
  have HN2 := Aside0.mk (fun (W : World) (base : Nat) (v : Value) (hR : KB.R 5 W base (fun _ => True) v t1) => num45C W base v t1 p K t2 hR h2 (by omega))
  have HN3 := Aside0.mk (fun (W : World) (base : Nat) (v : Value) (hR : KB.R 5 W base (fun _ => True) v t2) => num45C W base v t2 s K t3 hR h3 (by omega))
  have HF := Aside0.mk hf
  have HL := Aside0.mk hl
  have HB3 := Aside0.mk hb3
  clear hf h1 h2 h3 hl hb3
  go_enter Try.func31, Try.ntmps31
  go_wp2_with (go_at_call 22; refine Calls.mono (HC.out _) ?_; rintro e w2 ⟨rfl, hb⟩; replace HH := Aside0.mk ((hb.block _ (heap_lt HH.out)).trans HH.out); replace HB := Aside0.mk (below_then HB.out HB.out.size hb); clear hb)
  have y0 := blkc HH.out 0 rfl
  have y1 := blkc HH.out 1 rfl
  have y2 := blkc HH.out 2 rfl
  refine start_ (n := 13) (S := fun w' => w'.cell? ⟨w.heap.size, 0, none⟩ = some (.int .i64 (k : Nat)) ∧ w'.cell? ⟨w.heap.size, 1, none⟩ = some (.int .i64 (p : Nat)) ∧ w'.cell? ⟨w.heap.size, 2, none⟩ = some (.int .i64 (s : Nat))) (ds := []) #[false, false, false, false, false, false, false, false, false, false, false, false, false] (by kernel_rfl) rfl rfl ⟨y0, y1, y2⟩ (fun hHeld => ?_)
  refine with_tabW heads4.tab4 heads4.bits4 (fun HT_ HW_ => ?_)
  refine pure_ (i := 0) (N := some 13) (v := ?_) (a' := ?_) #[true, false, false, false, false, false, false, false, false, false, false, false, false] rfl rfl (any_of HT_.out (by kernel_rfl)) (fun _ _ _ h => h) (Or.inl ⟨by rfl, ?_⟩) ?_ ?_
  rotate_left
  · intro w'
    go_simp
    with_reducible rfl
  rotate_left
  · simp only [Act.put, List.setIfInBounds_toArray, List.set_cons_zero, List.set_cons_succ, i64_w, i32_w]
    rfl
  refine pure_ (i := 4) (N := some 17) (v := ?_) (a' := ?_) #[true, false, false, false, true, false, false, false, false, false, false, false, false] rfl rfl (any_of HT_.out (by kernel_rfl)) (fun _ _ _ h => h) (Or.inl ⟨by rfl, ?_⟩) ?_ ?_
  rotate_left
  · intro w'
    go_simp
    with_reducible rfl
  rotate_left
  · simp only [Act.put, List.setIfInBounds_toArray, List.set_cons_zero, List.set_cons_succ, i64_w, i32_w]
    rfl
  refine pure_ (i := 8) (N := some 21) (v := ?_) (a' := ?_) #[true, false, false, false, true, false, false, false, true, false, false, false, false] rfl rfl (any_of HT_.out (by kernel_rfl)) (fun _ _ _ h => h) (Or.inl ⟨by rfl, ?_⟩) ?_ ?_
  rotate_left
  · intro w'
    go_simp
    with_reducible rfl
  rotate_left
  · simp only [Act.put, List.setIfInBounds_toArray, List.set_cons_zero, List.set_cons_succ, i64_w, i32_w]
    rfl
  refine take_ (i := 1) (N := some 14) (v := ?_) (a' := ?_) #[true, true, false, false, true, false, false, false, true, false, false, false, false] rfl rfl (take_ofW HT_.out HW_.out (by kernel_rfl)) (fun _ _ _ h => h) (Or.inl ⟨by rfl, ?_⟩) hHeld ?_ ?_
  rotate_left
  · rintro w' ⟨s0, s1, s2⟩
    go_simp
    with_reducible rfl
  rotate_left
  · simp only [Act.put, List.setIfInBounds_toArray, List.set_cons_zero, List.set_cons_succ, i64_w, i32_w]
    rfl
  refine pure_ (i := 2) (N := some 15) (v := ?_) (a' := ?_) #[true, true, true, false, true, false, false, false, true, false, false, false, false] rfl rfl (any_of HT_.out (by kernel_rfl)) (fun _ _ _ h => h) (Or.inl ⟨by rfl, ?_⟩) ?_ ?_
  rotate_left
  · intro w'
    go_simp
    with_reducible rfl
  rotate_left
  · simp only [Act.put, List.setIfInBounds_toArray, List.set_cons_zero, List.set_cons_succ, i64_w, i32_w]
    rfl
  refine take_ (i := 5) (N := some 18) (v := ?_) (a' := ?_) #[true, true, true, false, true, true, false, false, true, false, false, false, false] rfl rfl (take_ofW HT_.out HW_.out (by kernel_rfl)) (fun _ _ _ h => h) (Or.inl ⟨by rfl, ?_⟩) hHeld ?_ ?_
  rotate_left
  · rintro w' ⟨s0, s1, s2⟩
    go_simp
    with_reducible rfl
  rotate_left
  · simp only [Act.put, List.setIfInBounds_toArray, List.set_cons_zero, List.set_cons_succ, i64_w, i32_w]
    rfl
  refine pure_ (i := 6) (N := some 19) (v := ?_) (a' := ?_) #[true, true, true, false, true, true, true, false, true, false, false, false, false] rfl rfl (any_of HT_.out (by kernel_rfl)) (fun _ _ _ h => h) (Or.inl ⟨by rfl, ?_⟩) ?_ ?_
  rotate_left
  · intro w'
    go_simp
    with_reducible rfl
  rotate_left
  · simp only [Act.put, List.setIfInBounds_toArray, List.set_cons_zero, List.set_cons_succ, i64_w, i32_w]
    rfl
  refine take_ (i := 9) (N := some 22) (v := ?_) (a' := ?_) #[true, true, true, false, true, true, true, false, true, true, false, false, false] rfl rfl (take_ofW HT_.out HW_.out (by kernel_rfl)) (fun _ _ _ h => h) (Or.inl ⟨by rfl, ?_⟩) hHeld ?_ ?_
  rotate_left
  · rintro w' ⟨s0, s1, s2⟩
    go_simp
    with_reducible rfl
  rotate_left
  · simp only [Act.put, List.setIfInBounds_toArray, List.set_cons_zero, List.set_cons_succ, i64_w, i32_w]
    rfl
  refine pure_ (i := 10) (N := some 23) (v := ?_) (a' := ?_) #[true, true, true, false, true, true, true, false, true, true, true, false, false] rfl rfl (any_of HT_.out (by kernel_rfl)) (fun _ _ _ h => h) (Or.inl ⟨by rfl, ?_⟩) ?_ ?_
  rotate_left
  · intro w'
    go_simp
    with_reducible rfl
  rotate_left
  · simp only [Act.put, List.setIfInBounds_toArray, List.set_cons_zero, List.set_cons_succ, i64_w, i32_w]
    rfl
  refine one_ (i := 3) (N := some 16) #[true, true, true, true, true, true, true, false, true, true, true, false, false] rfl rfl (one_of HT_.out (by kernel_rfl)) (by decide) (fun K hK => ?_)
  refine goes_ Try.func45 (by kernel_rfl) rfl #[.slice none 0 0, .int .u64 (IntKind.u64.wrap (k : Nat))] (by rfl) rfl rfl (by simp only [List.map_toArray, List.map_cons, List.map_nil]; rfl) ?_
  refine Calls.mono (HN1.out _) ?_
  rintro e w3 ⟨v3, rfl, hR3, hb3⟩
  refine ⟨_, rfl, ?_⟩
  refine hK.out _ _ ⟨pw_cell_below hb3 hHeld.1, pw_cell_below hb3 hHeld.2.1, pw_cell_below hb3 hHeld.2.2⟩ (fun hHeld => ?_)
  clear hK K
  refine norm_ (a' := ?_) ?_ ?_
  rotate_left
  · show Act.put _ (some 16) _ = _
    simp only [Act.put, List.setIfInBounds_toArray, List.set_cons_zero, List.set_cons_succ, i64_w, i32_w]
    rfl
  refine one_ (i := 7) (N := some 20) #[true, true, true, true, true, true, true, true, true, true, true, false, false] rfl rfl (one_of HT_.out (by kernel_rfl)) (by decide) (fun K hK => ?_)
  refine goes_ Try.func45 (by kernel_rfl) rfl #[v3, .int .u64 (IntKind.u64.wrap (p : Nat))] (by rfl) rfl rfl (by simp only [List.map_toArray, List.map_cons, List.map_nil]; rfl) ?_
  refine Calls.mono (HN2.out _ _ _ hR3) ?_
  rintro e w4 ⟨v4, rfl, hR4, hb4⟩
  refine ⟨_, rfl, ?_⟩
  refine hK.out _ _ ⟨pw_cell_below hb4 hHeld.1, pw_cell_below hb4 hHeld.2.1, pw_cell_below hb4 hHeld.2.2⟩ (fun hHeld => ?_)
  clear hK K
  refine norm_ (a' := ?_) ?_ ?_
  rotate_left
  · show Act.put _ (some 20) _ = _
    simp only [Act.put, List.setIfInBounds_toArray, List.set_cons_zero, List.set_cons_succ, i64_w, i32_w]
    rfl
  refine one_ (i := 11) (N := some 24) #[true, true, true, true, true, true, true, true, true, true, true, true, false] rfl rfl (one_of HT_.out (by kernel_rfl)) (by decide) (fun K hK => ?_)
  refine goes_ Try.func45 (by kernel_rfl) rfl #[v4, .int .u64 (IntKind.u64.wrap (s : Nat))] (by rfl) rfl rfl (by simp only [List.map_toArray, List.map_cons, List.map_nil]; rfl) ?_
  refine Calls.mono (HN3.out _ _ _ hR4) ?_
  rintro e w5 ⟨v5, rfl, hR5, hb5⟩
  refine ⟨_, rfl, ?_⟩
  refine hK.out _ _ ⟨pw_cell_below hb5 hHeld.1, pw_cell_below hb5 hHeld.2.1, pw_cell_below hb5 hHeld.2.2⟩ (fun hHeld => ?_)
  clear hK K
  refine norm_ (a' := ?_) ?_ ?_
  rotate_left
  · show Act.put _ (some 24) _ = _
    simp only [Act.put, List.setIfInBounds_toArray, List.set_cons_zero, List.set_cons_succ, i64_w, i32_w]
    rfl
  refine pure_ (i := 12) (N := some 7) (v := ?_) (a' := ?_) #[true, true, true, true, true, true, true, true, true, true, true, true, true] rfl rfl (any_of HT_.out (by kernel_rfl)) (fun _ _ _ h => h) (Or.inl ⟨by rfl, ?_⟩) ?_ ?_
  rotate_left
  · intro w'
    go_simp
    with_reducible rfl
  rotate_left
  · simp only [Act.put, List.setIfInBounds_toArray, List.set_cons_zero, List.set_cons_succ, i64_w, i32_w]
    rfl
  refine done_ (done_of HT_.out (by kernel_rfl)) ?_
  have hd0 := below_drew (Below.refl w2.heap.size w2)
  have hb25 := below_then (below_then (below_then hd0 hd0.size hb3) (Nat.le_trans hd0.size hb3.size) hb4) (Nat.le_trans hd0.size (Nat.le_trans hb3.size hb4.size)) hb5
  have HB5 := Aside0.mk (below_then HB.out HB.out.size hb25)
  obtain ⟨A5, c5, e5, hc5, hC5⟩ := Kd.R_reads hR5
  subst e5
  have HC5 := Aside0.mk hC5
  have HCC5 := Aside0.mk hc5
  obtain ⟨z0, z1, z2⟩ := hHeld
  have HR46 := Aside0.mk (fun (W : World) (b : Nat) (hb : W.heap[b]? = some (.cells #[.slice A5 t3.length c5] 37 (0, 0))) => by
    have h := repeat46 W b (k + 2) (.slice A5 t3.length c5) rfl (by omega) (by omega) hb
    have e : wrap64 ((k : Int) + 2) = ((k + 2 : Nat) : Int) := by unfold wrap64; omega
    rw [← e] at h
    exact (h : Calls Try.prog 46 #[.slice (some ⟨b, 0, none⟩) 1 1, .int .i64 (wrap64 ((k : Int) + 2))] W fun e w' => ∃ g, e = .returned (.slice (some ⟨g, 0, none⟩) (k + 2) (k + 2)) ∧ W.heap.size ≤ g ∧ w'.heap[g]? = some (.cells (List.replicate (k + 2) (Value.slice A5 t3.length c5)).toArray 37 (0, 0)) ∧ Below W.heap.size W w'))
  have HR44 := Aside0.mk (fun (W : World) (g : Nat) (hg : W.heap[g]? = some (.cells (List.replicate (k + 2) (Value.slice A5 t3.length c5)).toArray 37 (0, 0))) (hb : Below w5.heap.size w5 W) => pages44 W s seg 0 (k + 2) (k + 2) k p (some ⟨g, 0, none⟩) (List.replicate (k + 2) t3) (KR_of hg (List.length_replicate) (by omega) (fun j hj => by
      have e : Gf.row (List.replicate (k + 2) t3) j = t3 := by simp [Gf.row, List.getD, hj]
      refine ⟨A5, c5, ?_, ?_, ?_⟩
      · rw [e, List.getElem?_toArray, List.getElem?_replicate, if_pos hj]
      · rw [e]; exact HCC5.out
      · rw [e]; exact Kd.C_below HC5.out hb)) (fun i hi => by
      have e : Gf.row (List.replicate (k + 2) t3) i = t3 := by simp [Gf.row, List.getD, hi]
      rw [e]; exact HB3.out) HF.out.s1 HF.out.s2 hseg (by omega) (by omega) (fun i hi => by
      have e : Gf.row (List.replicate (k + 2) t3) i = t3 := by simp [Gf.row, List.getD, hi]
      have := room_pos HF.out.s1 HF.out.s2
      have := HL.out
      rw [e]; omega))
  clear hb25 hd0 hb3 hb4 hb5 hR3 hR4 hR5 hC5 hc5 HT_ HW_ HN1 HN2 HN3 HC HH HB y0 y1 y2
  go_upto_region 5 with fail
  refine start_ (n := 11) (S := fun w' => w'.cell? ⟨w.heap.size, 0, none⟩ = some (.int .i64 (k : Nat)) ∧ w'.cell? ⟨w.heap.size, 1, none⟩ = some (.int .i64 (p : Nat)) ∧ w'.cell? ⟨w.heap.size, 2, none⟩ = some (.int .i64 (s : Nat))) (ds := []) #[false, false, false, false, false, false, false, false, false, false, false] (by kernel_rfl) rfl rfl ⟨z0, z1, z2⟩ (fun hHeld => ?_)
  refine with_tabW heads5.tab5 heads5.bits5 (fun HT_ HW_ => ?_)
  refine pure_ (i := 1) (N := some 26) (v := ?_) (a' := ?_) #[false, true, false, false, false, false, false, false, false, false, false] rfl rfl (any_of HT_.out (by kernel_rfl)) (fun _ _ _ h => h) (Or.inl ⟨by rfl, ?_⟩) ?_ ?_
  rotate_left
  · intro w'
    go_simp
    with_reducible rfl
  rotate_left
  · simp only [Act.put, List.setIfInBounds_toArray, List.set_cons_zero, List.set_cons_succ, i64_w, i32_w]
    rfl
  refine pure_ (i := 2) (N := some 27) (v := ?_) (a' := ?_) #[false, true, true, false, false, false, false, false, false, false, false] rfl rfl (any_of HT_.out (by kernel_rfl)) (fun _ _ _ h => h) (Or.inl ⟨by rfl, ?_⟩) ?_ ?_
  rotate_left
  · intro w'
    go_simp
    with_reducible rfl
  rotate_left
  · simp only [Act.put, List.setIfInBounds_toArray, List.set_cons_zero, List.set_cons_succ, i64_w, i32_w]
    rfl
  refine pure_ (i := 4) (N := some 29) (v := ?_) (a' := ?_) #[false, true, true, false, true, false, false, false, false, false, false] rfl rfl (any_of HT_.out (by kernel_rfl)) (fun _ _ _ h => h) (Or.inl ⟨by rfl, ?_⟩) ?_ ?_
  rotate_left
  · intro w'
    go_simp
    with_reducible rfl
  rotate_left
  · simp only [Act.put, List.setIfInBounds_toArray, List.set_cons_zero, List.set_cons_succ, i64_w, i32_w]
    rfl
  refine take_ (i := 0) (N := some 25) (v := ?_) (a' := ?_) #[true, true, true, false, true, false, false, false, false, false, false] rfl rfl (take_ofW HT_.out HW_.out (by kernel_rfl)) (fun _ _ _ h => h) (Or.inl ⟨by rfl, ?_⟩) hHeld ?_ ?_
  rotate_left
  · rintro w' ⟨s0, s1, s2⟩
    go_simp
    with_reducible rfl
  rotate_left
  · simp only [Act.put, List.setIfInBounds_toArray, List.set_cons_zero, List.set_cons_succ, i64_w, i32_w]
    rfl
  refine take_ (i := 5) (N := some 30) (v := ?_) (a' := ?_) #[true, true, true, false, true, true, false, false, false, false, false] rfl rfl (take_ofW HT_.out HW_.out (by kernel_rfl)) (fun _ _ _ h => h) (Or.inl ⟨by rfl, ?_⟩) hHeld ?_ ?_
  rotate_left
  · rintro w' ⟨s0, s1, s2⟩
    go_simp
    with_reducible rfl
  rotate_left
  · simp only [Act.put, List.setIfInBounds_toArray, List.set_cons_zero, List.set_cons_succ, i64_w, i32_w]
    rfl
  refine pure_ (i := 6) (N := some 31) (v := ?_) (a' := ?_) #[true, true, true, false, true, true, true, false, false, false, false] rfl rfl (any_of HT_.out (by kernel_rfl)) (fun _ _ _ h => h) (Or.inl ⟨by rfl, ?_⟩) ?_ ?_
  rotate_left
  · intro w'
    go_simp
    with_reducible rfl
  rotate_left
  · simp only [Act.put, List.setIfInBounds_toArray, List.set_cons_zero, List.set_cons_succ, i64_w, i32_w]
    rfl
  refine one_ (i := 3) (N := some 28) #[true, true, true, true, true, true, true, false, false, false, false] rfl rfl (one_of HT_.out (by kernel_rfl)) (by decide) (fun K hK => ?_)
  refine value_ (w1 := ?_) (v := ?_) (by rfl) rfl ?_ ?_
  rotate_left 2
  · go_simp
    constructor
    · rfl
    · rfl
  refine hK.out _ _ ⟨pw_cell_below (below_alloc (Below.refl _ _) _) hHeld.1, pw_cell_below (below_alloc (Below.refl _ _) _) hHeld.2.1, pw_cell_below (below_alloc (Below.refl _ _) _) hHeld.2.2⟩ (fun hHeld => ?_)
  clear hK K
  refine norm_ (a' := ?_) ?_ ?_
  rotate_left
  · show Act.put _ (some 28) _ = _
    simp only [Act.put, List.setIfInBounds_toArray, List.set_cons_zero, List.set_cons_succ, i64_w, i32_w]
    rfl
  refine one_ (i := 7) (N := some 32) #[true, true, true, true, true, true, true, true, false, false, false] rfl rfl (one_of HT_.out (by kernel_rfl)) (by decide) (fun K hK => ?_)
  refine goes_ Try.func46 (by kernel_rfl) rfl #[.slice (some ⟨w5.heap.size, 0, none⟩) 1 1, .int .i64 (wrap64 ((k : Int) + 2))] (by rfl) rfl rfl (by simp only [List.map_toArray, List.map_cons, List.map_nil]; rfl) ?_
  refine Calls.mono (HR46.out _ _ (heap_alloc_last _ _)) ?_
  rintro e w6 ⟨g, rfl, hgg, hg, hb6⟩
  refine ⟨_, rfl, ?_⟩
  refine hK.out _ _ ⟨pw_cell_below hb6 hHeld.1, pw_cell_below hb6 hHeld.2.1, pw_cell_below hb6 hHeld.2.2⟩ (fun hHeld => ?_)
  clear hK K
  refine norm_ (a' := ?_) ?_ ?_
  rotate_left
  · show Act.put _ (some 32) _ = _
    simp only [Act.put, List.setIfInBounds_toArray, List.set_cons_zero, List.set_cons_succ, i64_w, i32_w]
    rfl
  refine one_ (i := 8) (N := some 33) #[true, true, true, true, true, true, true, true, true, false, false] rfl rfl (one_of HT_.out (by kernel_rfl)) (by decide) (fun K hK => ?_)
  refine goes_ Try.func44 (by kernel_rfl) rfl #[.agg #[.int .i64 (k : Nat), .int .i64 (p : Nat), .int .i64 (s : Nat)], .int .u64 (seg : Nat), .int .i64 0, .slice (some ⟨g, 0, none⟩) (k + 2) (k + 2)] (by rfl) rfl rfl (by simp only [List.map_toArray, List.map_cons, List.map_nil]; rfl) ?_
  refine Calls.mono (HR44.out _ _ hg (below_then (below_alloc (below_drew (Below.refl _ _)) _) (below_alloc (below_drew (Below.refl _ _)) _).size hb6)) ?_
  rintro e w7 ⟨v7, hs7, rfl, hH7, hO7, hb7⟩
  refine ⟨_, rfl, ?_⟩
  refine hK.out _ _ ⟨pw_cell_below hb7 hHeld.1, pw_cell_below hb7 hHeld.2.1, pw_cell_below hb7 hHeld.2.2⟩ (fun hHeld => ?_)
  clear hK K
  refine norm_ (a' := ?_) ?_ ?_
  rotate_left
  · show Act.put _ (some 33) _ = _
    simp only [Act.put, List.setIfInBounds_toArray, List.set_cons_zero, List.set_cons_succ, i64_w, i32_w]
    rfl
  refine pure_ (i := 9) (N := some 4) (v := ?_) (a' := ?_) #[true, true, true, true, true, true, true, true, true, true, false] rfl rfl (any_of HT_.out (by kernel_rfl)) (fun _ _ _ h => h) (Or.inl ⟨by rfl, ?_⟩) ?_ ?_
  rotate_left
  · intro w'
    go_simp
    with_reducible rfl
  rotate_left
  · simp only [Act.put, List.setIfInBounds_toArray, List.set_cons_zero, List.set_cons_succ, i64_w, i32_w]
    rfl
  refine pure_ (i := 10) (N := some 5) (v := ?_) (a' := ?_) #[true, true, true, true, true, true, true, true, true, true, true] rfl rfl (any_of HT_.out (by kernel_rfl)) (fun _ _ _ h => h) (Or.inl ⟨by rfl, ?_⟩) ?_ ?_
  rotate_left
  · intro w'
    go_simp
    with_reducible rfl
  rotate_left
  · simp only [Act.put, List.setIfInBounds_toArray, List.set_cons_zero, List.set_cons_succ, i64_w, i32_w]
    rfl
  refine done_ (done_of HT_.out (by kernel_rfl)) ?_
  have h0 := below_alloc (below_drew (Below.refl w5.heap.size w5)) (.cells #[.slice A5 t3.length c5] 37)
  have h6 := below_then h0 h0.size hb6
  have h7 := below_then h6 h6.size hb7
  have h8 := below_then HB5.out HB5.out.size h6
  have h9 := below_then HB5.out HB5.out.size h7
  clear HT_ HW_ hHeld
  go_wp2_with fail
  go_ret2
  exact ⟨v7, hs7, rfl, Kd.R_lower hH7 h8.size, hO7.lower h8.size, h9⟩
set_option maxHeartbeats 8000000 in
set_option maxRecDepth 100000 in
theorem heads31_no (w : World) (x y z seg : Int) (h : seg_Check.f x y z = some 1) :
    Calls Try.prog 31 #[.agg #[.int .i64 x, .int .i64 y, .int .i64 z], .int .u64 seg] w fun e w' => e = .returned (.tuple #[.slice none 0 0, .int .i64 1]) ∧ Below w.heap.size w w' := by
  have HC := Aside0.mk (fun (W : World) => seg_Check.calls x y z 1 W h)
  have HB := Aside0.mk (below_alloc (Below.refl w.heap.size w) (.cells #[.int .i64 x, .int .i64 y, .int .i64 z] 23))
  clear h
  go_enter Try.func31, Try.ntmps31
  go_wp2_with (go_at_call 22; refine Calls.mono (HC.out _) ?_; rintro e w1 ⟨rfl, hb⟩; replace HB := Aside0.mk (below_then HB.out HB.out.size hb); clear hb)
  go_ret2
  exact ⟨rfl, HB.out⟩
end Go.Proofs.Ytjnicooboiijgaa.Sg
