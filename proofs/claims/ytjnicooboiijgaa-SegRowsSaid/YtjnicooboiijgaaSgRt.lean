/-
  flintlaw9.SegRows.
-/
import Derived.Test.YtjnicooboiijgaaSgRs
set_option linter.unusedVariables false
set_option linter.unusedSimpArgs false
namespace Go.Proofs.Ytjnicooboiijgaa.Sg
open Go.RowKit Go.Proofs.YtjnicooboiijgaaW.PrintWords Go.Proofs.YtjnicooboiijgaaW.PrintLast Go.Proofs.YtjnicooboiijgaaW.PrintMore Go.Proofs.Ytjnicooboiijgaa.PSg Go.Proofs.Ytjnicooboiijgaa.Gf Go.Proofs.Ytjnicooboiijgaa.Rs
/-- Both shapes in their boxes. -/
structure Bx (w W : World) (x y z : Int) (b : Nat) : Prop where
  s : W.heap[w.heap.size]? = some (.cells #[.int .i64 x, .int .i64 y, .int .i64 z] 23 (0, 0))
  r : W.heap[b]? = some (.cells #[.int .i64 x, .int .i64 y, .int .i64 z] 34 (0, 0))
  below : Below w.heap.size w W
theorem Bx.move {w W W1 : World} {x y z : Int} {b : Nat} (h : Bx w W x y z b) (hb : Below W.heap.size W W1) : Bx w W1 x y z b :=
  ⟨(hb.block _ (heap_lt h.s)).trans h.s, (hb.block _ (heap_lt h.r)).trans h.r, below_then h.below h.below.size hb⟩
def rows6.T6 : Bool × List (List Nat × List Nat) := (true, [([], []), ([0], [0]), ([], []), ([2, 1], [2]), ([1, 3], [1, 3]), ([4, 3], [4]), ([5], [5]), ([6, 5, 5], [5, 6]), ([5], [5]), ([8, 7, 5], [5, 8]), ([7, 9, 5], [5, 7, 9]), ([5, 10], [5, 10]), ([11, 9], [11]), ([12], [12]), ([13, 12, 12], [12, 13]), ([12], [12]), ([15, 14, 12], [12, 15]), ([14, 16, 12], [12, 14, 16]), ([12, 17], [12, 17])])
def rows6.B6 : List Nat := [0, 1, 0, 7, 15, 31, 63, 127, 63, 511, 1023, 2047, 4095, 8191, 16383, 8191, 65535, 131071, 262143]
theorem rows6.tab6 : rtab .any (opsOf Try.f7 6) = rows6.T6 := by kernel_rfl
theorem rows6.bits6 : waitsOk rows6.T6.2 rows6.B6 = true := by kernel_rfl
set_option maxHeartbeats 16000000 in
set_option maxRecDepth 100000 in
theorem rows7_off (w : World) (x y z seg row at_ m : Int) (A : Option Addr) (n c : Nat) (b : Bool) (hs : ∀ W : World, Calls Try.prog 9 #[.agg #[.int .i64 x, .int .i64 y, .int .i64 z]] W fun e w' => e = .returned (.bool b) ∧ Below W.heap.size W w') (h : b = false ∨ 20000 < n) : Calls Try.prog 7 #[.agg #[.int .i64 x, .int .i64 y, .int .i64 z], .int .u64 seg, .int .i64 row, .slice A n c, .int .i64 at_, .int .i64 m] w fun e w' => e = .returned (.bool true) ∧ Below w.heap.size w w' := by
  have HK := Aside0.mk (fun (W : World) => known8 W)
  have HS := Aside0.mk hs
  have HH := Aside0.mk (heap_alloc_last w (.cells #[.int .i64 x, .int .i64 y, .int .i64 z] 23))
  have HB := Aside0.mk (below_alloc (Below.refl w.heap.size w) (.cells #[.int .i64 x, .int .i64 y, .int .i64 z] 23))
  clear hs
  rcases b with _ | _
  · clear h
    go_enter Try.func7, Try.ntmps7
    go_wp2_with (first
      | (go_at_call 8; refine Calls.mono (HK.out _) ?_; rintro e w2 ⟨rfl, hb⟩; replace HH := Aside0.mk ((hb.block _ (heap_lt HH.out)).trans HH.out); replace HB := Aside0.mk (below_then HB.out HB.out.size hb); have y0 := blkc HH.out 0 rfl; have y1 := blkc HH.out 1 rfl; have y2 := blkc HH.out 2 rfl; clear hb)
      | (go_at_call 9; refine Calls.mono (HS.out _) ?_; rintro e w2 ⟨rfl, hb⟩; replace HB := Aside0.mk (below_then HB.out HB.out.size hb); clear hb))
    go_ret
    exact ⟨rfl, HB.out⟩
  · have h1 : 20000 < n := h.resolve_left (by decide)
    have d1 : decide (20000 < (n : Int)) = true := decide_eq_true (by omega)
    have d2 : decide (20000 < n) = true := decide_eq_true h1
    clear h
    go_enter Try.func7, Try.ntmps7
    go_wp2_with (first
      | (go_at_call 8; refine Calls.mono (HK.out _) ?_; rintro e w2 ⟨rfl, hb⟩; replace HH := Aside0.mk ((hb.block _ (heap_lt HH.out)).trans HH.out); replace HB := Aside0.mk (below_then HB.out HB.out.size hb); have y0 := blkc HH.out 0 rfl; have y1 := blkc HH.out 1 rfl; have y2 := blkc HH.out 2 rfl; clear hb)
      | (go_at_call 9; refine Calls.mono (HS.out _) ?_; rintro e w2 ⟨rfl, hb⟩; replace HB := Aside0.mk (below_then HB.out HB.out.size hb); clear hb))
    go_ret
    exact ⟨rfl, HB.out⟩
set_option maxHeartbeats 16000000 in
set_option maxRecDepth 100000 in
theorem rows7_on (w : World) (x y z row at_ m : Int) (seg : Nat) (hseg : seg < 18446744073709551616) (A : Option Addr) (c : Nat) (xs : List Int) (hA : KB.C w A xs.length xs) (hc : xs.length ≤ c) (hb : bytes xs = true) (ha : (Lit.int .i64 at_).wf = true) (hm : (Lit.int .i64 m).wf = true) (hs : ∀ W : World, Calls Try.prog 9 #[.agg #[.int .i64 x, .int .i64 y, .int .i64 z]] W fun e w' => e = .returned (.bool true) ∧ Below W.heap.size W w') (hn : xs.length ≤ 20000) : Calls Try.prog 7 #[.agg #[.int .i64 x, .int .i64 y, .int .i64 z], .int .u64 seg, .int .i64 row, .slice A xs.length c, .int .i64 at_, .int .i64 m] w fun e w' => e = .returned (.bool true) ∧ Below w.heap.size w w' := by
  have HK := Aside0.mk (fun (W : World) => known8 W)
  have HS := Aside0.mk hs
  have HO := Aside0.mk (fun (W : World) => of13' W x y z)
  have HH := Aside0.mk (heap_alloc_last w (.cells #[.int .i64 x, .int .i64 y, .int .i64 z] 23))
  have HB := Aside0.mk (below_alloc (Below.refl w.heap.size w) (.cells #[.int .i64 x, .int .i64 y, .int .i64 z] 23))
  obtain ⟨LH, eH, hLH, hH1, hH2⟩ := heads_pair x y z seg hseg
  obtain ⟨LP, eP, hLP, hP1, hP2⟩ := pages_pair x y z row seg hseg xs hb
  obtain ⟨wp, wq, wr', we, hW1, hW2⟩ := where_pair x y z at_
  obtain ⟨sp, sq, se, hS1, hS2⟩ := span_pair x y z at_ m ha hm
  obtain ⟨cr, hC1, hC2⟩ := check_pair x y z
  obtain ⟨rr, hR1, hR2⟩ := row_pair x y z
  obtain ⟨mr, hM1, hM2⟩ := room_pair x y z
  have HH1 := Aside0.mk hH1
  have HH2 := Aside0.mk hH2
  have HP1 := Aside0.mk (fun (W : World) (h : Below w.heap.size w W) => hP1 W A c (Kd.C_below hA h) hc)
  have HP2 := Aside0.mk (fun (W : World) (h : Below w.heap.size w W) => hP2 W A c (Kd.C_below hA h) hc)
  have HW1 := Aside0.mk hW1
  have HW2 := Aside0.mk hW2
  have HS1 := Aside0.mk hS1
  have HS2 := Aside0.mk hS2
  have HC1 := Aside0.mk hC1
  have HC2 := Aside0.mk hC2
  have HR1 := Aside0.mk hR1
  have HR2 := Aside0.mk hR2
  have HM1 := Aside0.mk hM1
  have HM2 := Aside0.mk hM2
  have HE1 := Aside0.mk (fun (W : World) (v0 v1 : Value) (h0 : RC W v0 LH) (h1 : RC W v1 LH) => same25 W LH hLH h0 h1)
  have HE2 := Aside0.mk (fun (W : World) (v0 v1 : Value) (h0 : RC W v0 LP) (h1 : RC W v1 LP) => same25 W LP hLP h0 h1)
  obtain ⟨n, hnn⟩ : ∃ n, xs.length = n := ⟨_, rfl⟩
  rw [hnn] at hn HP1 HP2 ⊢
  have d1 : decide (20000 < (n : Int)) = false := decide_eq_false (by omega)
  have d2 : decide (20000 < n) = false := decide_eq_false (by omega)
  clear hs hA hc hb ha hm hnn hH1 hH2 hP1 hP2 hW1 hW2 hS1 hS2 hC1 hC2 hR1 hR2 hM1 hM2 hLH hLP
  go_enter Try.func7, Try.ntmps7
  go_wp2_with (first
    | (go_at_call 8; refine Calls.mono (HK.out _) ?_; rintro e w2 ⟨rfl, hb⟩; replace HH := Aside0.mk ((hb.block _ (heap_lt HH.out)).trans HH.out); replace HB := Aside0.mk (below_then HB.out HB.out.size hb); have y0 := blkc HH.out 0 rfl; have y1 := blkc HH.out 1 rfl; have y2 := blkc HH.out 2 rfl; clear hb)
    | (go_at_call 9; refine Calls.mono (HS.out _) ?_; rintro e w2 ⟨rfl, hb⟩; replace HH := Aside0.mk ((hb.block _ (heap_lt HH.out)).trans HH.out); replace HB := Aside0.mk (below_then HB.out HB.out.size hb); have y0 := blkc HH.out 0 rfl; have y1 := blkc HH.out 1 rfl; have y2 := blkc HH.out 2 rfl; clear hb)
    | (go_at_call 13; refine Calls.mono (HO.out _) ?_; rintro e w2 ⟨rfl, hb⟩; replace HH := Aside0.mk ((hb.block _ (heap_lt HH.out)).trans HH.out); replace HB := Aside0.mk (below_then HB.out HB.out.size hb); clear hb y0 y1 y2))
  have hba := below_alloc (Below.refl w2.heap.size w2) (.cells #[.int .i64 x, .int .i64 y, .int .i64 z] 34)
  have HX0 := Aside0.mk (show Bx w (w2.alloc (.cells #[.int .i64 x, .int .i64 y, .int .i64 z] 34)) x y z w2.heap.size from ⟨(hba.block _ (heap_lt HH.out)).trans HH.out, heap_alloc_last _ _, below_then HB.out HB.out.size hba⟩)
  obtain ⟨b1, hb1⟩ : ∃ b1, w2.heap.size = b1 := ⟨_, rfl⟩
  rw [hb1] at HX0 ⊢
  obtain ⟨W2, hW2⟩ : ∃ W2, w2.alloc (.cells #[.int .i64 x, .int .i64 y, .int .i64 z] 34) = W2 := ⟨_, rfl⟩
  rw [hW2] at HX0 ⊢
  clear hba hb1 hW2 HH HB HK HS HO
  have y0 := blkc HX0.out.s 0 rfl
  have y1 := blkc HX0.out.s 1 rfl
  have y2 := blkc HX0.out.s 2 rfl
  have u0 := blkc HX0.out.r 0 rfl
  have u1 := blkc HX0.out.r 1 rfl
  have u2 := blkc HX0.out.r 2 rfl
  refine start_ (n := 19) (S := fun w' => Bx w w' x y z b1 ∧ w'.cell? ⟨w.heap.size, 0, none⟩ = some (.int .i64 x) ∧ w'.cell? ⟨w.heap.size, 1, none⟩ = some (.int .i64 y) ∧ w'.cell? ⟨w.heap.size, 2, none⟩ = some (.int .i64 z) ∧ w'.cell? ⟨b1, 0, none⟩ = some (.int .i64 x) ∧ w'.cell? ⟨b1, 1, none⟩ = some (.int .i64 y) ∧ w'.cell? ⟨b1, 2, none⟩ = some (.int .i64 z)) (ds := []) #[false, false, false, false, false, false, false, false, false, false, false, false, false, false, false, false, false, false, false] (by kernel_rfl) rfl rfl ⟨HX0.out.move (below_drew (Below.refl _ _)), y0, y1, y2, u0, u1, u2⟩ (fun hHeld => ?_)
  refine with_tabW rows6.tab6 rows6.bits6 (fun HT_ HW_ => ?_)
  refine take_ (i := 0) (N := some 36) (v := ?_) (a' := ?_) #[true, false, false, false, false, false, false, false, false, false, false, false, false, false, false, false, false, false, false] rfl rfl (take_ofW HT_.out HW_.out (by kernel_rfl)) (fun _ _ _ h => h) (Or.inl ⟨by rfl, ?_⟩) hHeld ?_ ?_
  rotate_left
  · rintro w' ⟨s0, s1, s2, s3, s4, s5, s6⟩
    go_simp
    with_reducible rfl
  rotate_left
  · simp only [Act.put, List.setIfInBounds_toArray, List.set_cons_zero, List.set_cons_succ, i64_w, i32_w]
    rfl
  refine take_ (i := 2) (N := some 38) (v := ?_) (a' := ?_) #[true, false, true, false, false, false, false, false, false, false, false, false, false, false, false, false, false, false, false] rfl rfl (take_ofW HT_.out HW_.out (by kernel_rfl)) (fun _ _ _ h => h) (Or.inl ⟨by rfl, ?_⟩) hHeld ?_ ?_
  rotate_left
  · rintro w' ⟨s0, s1, s2, s3, s4, s5, s6⟩
    go_simp
    with_reducible rfl
  rotate_left
  · simp only [Act.put, List.setIfInBounds_toArray, List.set_cons_zero, List.set_cons_succ, i64_w, i32_w]
    rfl
  refine one_ (i := 1) (N := some 37) #[true, true, true, false, false, false, false, false, false, false, false, false, false, false, false, false, false, false, false] rfl rfl (one_of HT_.out (by kernel_rfl)) (by decide) (fun K hK => ?_)
  refine goes_ Try.func22 (by kernel_rfl) rfl #[.agg #[.int .i64 x, .int .i64 y, .int .i64 z]] (by rfl) rfl rfl (by simp only [List.map_toArray, List.map_cons, List.map_nil]; rfl) ?_
  refine Calls.mono (HC1.out _) ?_
  rintro e w3 ⟨rfl, hb⟩
  refine ⟨_, rfl, ?_⟩
  refine hK.out _ _ ⟨hHeld.1.move hb, pw_cell_below hb hHeld.2.1, pw_cell_below hb hHeld.2.2.1, pw_cell_below hb hHeld.2.2.2.1, pw_cell_below hb hHeld.2.2.2.2.1, pw_cell_below hb hHeld.2.2.2.2.2.1, pw_cell_below hb hHeld.2.2.2.2.2.2⟩ (fun hHeld => ?_)
  clear hK K
  refine norm_ (a' := ?_) ?_ ?_
  rotate_left
  · show Act.put _ (some 37) _ = _
    simp only [Act.put, List.setIfInBounds_toArray, List.set_cons_zero, List.set_cons_succ, i64_w, i32_w]
    rfl
  refine one_ (i := 3) (N := some 39) #[true, true, true, true, false, false, false, false, false, false, false, false, false, false, false, false, false, false, false] rfl rfl (one_of HT_.out (by kernel_rfl)) (by decide) (fun K hK => ?_)
  refine goes_ Try.func12 (by kernel_rfl) rfl #[.agg #[.int .i64 x, .int .i64 y, .int .i64 z]] (by rfl) rfl rfl (by simp only [List.map_toArray, List.map_cons, List.map_nil]; rfl) ?_
  refine Calls.mono (HC2.out _) ?_
  rintro e w3 ⟨rfl, hb⟩
  refine ⟨_, rfl, ?_⟩
  refine hK.out _ _ ⟨hHeld.1.move hb, pw_cell_below hb hHeld.2.1, pw_cell_below hb hHeld.2.2.1, pw_cell_below hb hHeld.2.2.2.1, pw_cell_below hb hHeld.2.2.2.2.1, pw_cell_below hb hHeld.2.2.2.2.2.1, pw_cell_below hb hHeld.2.2.2.2.2.2⟩ (fun hHeld => ?_)
  clear hK K
  refine norm_ (a' := ?_) ?_ ?_
  rotate_left
  · show Act.put _ (some 39) _ = _
    simp only [Act.put, List.setIfInBounds_toArray, List.set_cons_zero, List.set_cons_succ, i64_w, i32_w]
    rfl
  refine pure_ (i := 4) (N := some 40) (v := ?_) (a' := ?_) #[true, true, true, true, true, false, false, false, false, false, false, false, false, false, false, false, false, false, false] rfl rfl (any_of HT_.out (by kernel_rfl)) (fun _ _ _ h => h) (Or.inl ⟨by rfl, ?_⟩) ?_ ?_
  rotate_left
  · intro w'
    go_simp
    with_reducible rfl
  rotate_left
  · simp only [Act.put, List.setIfInBounds_toArray, List.set_cons_zero, List.set_cons_succ, i64_w, i32_w]
    rfl
  refine pure_ (i := 5) (N := some 41) (v := ?_) (a' := ?_) #[true, true, true, true, true, true, false, false, false, false, false, false, false, false, false, false, false, false, false] rfl rfl (any_of HT_.out (by kernel_rfl)) (fun _ _ _ h => h) (Or.inl ⟨by rfl, ?_⟩) ?_ ?_
  rotate_left
  · intro w'
    go_simp
    with_reducible rfl
  rotate_left
  · simp only [Act.put, List.setIfInBounds_toArray, List.set_cons_zero, List.set_cons_succ, i64_w, i32_w]
    rfl
  refine take_ (i := 6) (N := some 42) (v := ?_) (a' := ?_) #[true, true, true, true, true, true, true, false, false, false, false, false, false, false, false, false, false, false, false] rfl rfl (take_ofW HT_.out HW_.out (by kernel_rfl)) (fun _ _ _ h => h) (Or.inl ⟨by rfl, ?_⟩) hHeld ?_ ?_
  rotate_left
  · rintro w' ⟨s0, s1, s2, s3, s4, s5, s6⟩
    go_simp
    with_reducible rfl
  rotate_left
  · simp only [Act.put, List.setIfInBounds_toArray, List.set_cons_zero, List.set_cons_succ, i64_w, i32_w]
    rfl
  refine take_ (i := 8) (N := some 44) (v := ?_) (a' := ?_) #[true, true, true, true, true, true, true, false, true, false, false, false, false, false, false, false, false, false, false] rfl rfl (take_ofW HT_.out HW_.out (by kernel_rfl)) (fun _ _ _ h => h) (Or.inl ⟨by rfl, ?_⟩) hHeld ?_ ?_
  rotate_left
  · rintro w' ⟨s0, s1, s2, s3, s4, s5, s6⟩
    go_simp
    with_reducible rfl
  rotate_left
  · simp only [Act.put, List.setIfInBounds_toArray, List.set_cons_zero, List.set_cons_succ, i64_w, i32_w]
    rfl
  refine one_ (i := 7) (N := some 43) #[true, true, true, true, true, true, true, true, true, false, false, false, false, false, false, false, false, false, false] rfl rfl (one_of HT_.out (by kernel_rfl)) (by decide) (fun K hK => ?_)
  refine goes_ Try.func23 (by kernel_rfl) rfl #[.agg #[.int .i64 x, .int .i64 y, .int .i64 z]] (by rfl) rfl rfl (by simp only [List.map_toArray, List.map_cons, List.map_nil]; rfl) ?_
  refine Calls.mono (HR1.out _) ?_
  rintro e w3 ⟨rfl, hb⟩
  refine ⟨_, rfl, ?_⟩
  refine hK.out _ _ ⟨hHeld.1.move hb, pw_cell_below hb hHeld.2.1, pw_cell_below hb hHeld.2.2.1, pw_cell_below hb hHeld.2.2.2.1, pw_cell_below hb hHeld.2.2.2.2.1, pw_cell_below hb hHeld.2.2.2.2.2.1, pw_cell_below hb hHeld.2.2.2.2.2.2⟩ (fun hHeld => ?_)
  clear hK K
  refine norm_ (a' := ?_) ?_ ?_
  rotate_left
  · show Act.put _ (some 43) _ = _
    simp only [Act.put, List.setIfInBounds_toArray, List.set_cons_zero, List.set_cons_succ, i64_w, i32_w]
    rfl
  refine one_ (i := 9) (N := some 45) #[true, true, true, true, true, true, true, true, true, true, false, false, false, false, false, false, false, false, false] rfl rfl (one_of HT_.out (by kernel_rfl)) (by decide) (fun K hK => ?_)
  refine goes_ Try.func29 (by kernel_rfl) rfl #[.agg #[.int .i64 x, .int .i64 y, .int .i64 z]] (by rfl) rfl rfl (by simp only [List.map_toArray, List.map_cons, List.map_nil]; rfl) ?_
  refine Calls.mono (HR2.out _) ?_
  rintro e w3 ⟨rfl, hb⟩
  refine ⟨_, rfl, ?_⟩
  refine hK.out _ _ ⟨hHeld.1.move hb, pw_cell_below hb hHeld.2.1, pw_cell_below hb hHeld.2.2.1, pw_cell_below hb hHeld.2.2.2.1, pw_cell_below hb hHeld.2.2.2.2.1, pw_cell_below hb hHeld.2.2.2.2.2.1, pw_cell_below hb hHeld.2.2.2.2.2.2⟩ (fun hHeld => ?_)
  clear hK K
  refine norm_ (a' := ?_) ?_ ?_
  rotate_left
  · show Act.put _ (some 45) _ = _
    simp only [Act.put, List.setIfInBounds_toArray, List.set_cons_zero, List.set_cons_succ, i64_w, i32_w]
    rfl
  refine pure_ (i := 10) (N := some 46) (v := ?_) (a' := ?_) #[true, true, true, true, true, true, true, true, true, true, true, false, false, false, false, false, false, false, false] rfl rfl (any_of HT_.out (by kernel_rfl)) (fun _ _ _ h => h) (Or.inl ⟨by rfl, ?_⟩) ?_ ?_
  rotate_left
  · intro w'
    go_simp
    with_reducible rfl
  rotate_left
  · simp only [Act.put, List.setIfInBounds_toArray, List.set_cons_zero, List.set_cons_succ, i64_w, i32_w]
    rfl
  refine pure_ (i := 11) (N := some 47) (v := ?_) (a' := ?_) #[true, true, true, true, true, true, true, true, true, true, true, true, false, false, false, false, false, false, false] rfl rfl (any_of HT_.out (by kernel_rfl)) (fun _ _ _ h => h) (Or.inl ⟨by rfl, ?_⟩) ?_ ?_
  rotate_left
  · intro w'
    go_simp
    with_reducible rfl
  rotate_left
  · simp only [Act.put, List.setIfInBounds_toArray, List.set_cons_zero, List.set_cons_succ, i64_w, i32_w]
    rfl
  refine pure_ (i := 12) (N := some 48) (v := ?_) (a' := ?_) #[true, true, true, true, true, true, true, true, true, true, true, true, true, false, false, false, false, false, false] rfl rfl (any_of HT_.out (by kernel_rfl)) (fun _ _ _ h => h) (Or.inl ⟨by rfl, ?_⟩) ?_ ?_
  rotate_left
  · intro w'
    go_simp
    with_reducible rfl
  rotate_left
  · simp only [Act.put, List.setIfInBounds_toArray, List.set_cons_zero, List.set_cons_succ, i64_w, i32_w]
    rfl
  refine take_ (i := 13) (N := some 49) (v := ?_) (a' := ?_) #[true, true, true, true, true, true, true, true, true, true, true, true, true, true, false, false, false, false, false] rfl rfl (take_ofW HT_.out HW_.out (by kernel_rfl)) (fun _ _ _ h => h) (Or.inl ⟨by rfl, ?_⟩) hHeld ?_ ?_
  rotate_left
  · rintro w' ⟨s0, s1, s2, s3, s4, s5, s6⟩
    go_simp
    with_reducible rfl
  rotate_left
  · simp only [Act.put, List.setIfInBounds_toArray, List.set_cons_zero, List.set_cons_succ, i64_w, i32_w]
    rfl
  refine take_ (i := 15) (N := some 51) (v := ?_) (a' := ?_) #[true, true, true, true, true, true, true, true, true, true, true, true, true, true, false, true, false, false, false] rfl rfl (take_ofW HT_.out HW_.out (by kernel_rfl)) (fun _ _ _ h => h) (Or.inl ⟨by rfl, ?_⟩) hHeld ?_ ?_
  rotate_left
  · rintro w' ⟨s0, s1, s2, s3, s4, s5, s6⟩
    go_simp
    with_reducible rfl
  rotate_left
  · simp only [Act.put, List.setIfInBounds_toArray, List.set_cons_zero, List.set_cons_succ, i64_w, i32_w]
    rfl
  refine one_ (i := 14) (N := some 50) #[true, true, true, true, true, true, true, true, true, true, true, true, true, true, true, true, false, false, false] rfl rfl (one_of HT_.out (by kernel_rfl)) (by decide) (fun K hK => ?_)
  refine goes_ Try.func26 (by kernel_rfl) rfl #[.agg #[.int .i64 x, .int .i64 y, .int .i64 z]] (by rfl) rfl rfl (by simp only [List.map_toArray, List.map_cons, List.map_nil]; rfl) ?_
  refine Calls.mono (HM1.out _) ?_
  rintro e w3 ⟨rfl, hb⟩
  refine ⟨_, rfl, ?_⟩
  refine hK.out _ _ ⟨hHeld.1.move hb, pw_cell_below hb hHeld.2.1, pw_cell_below hb hHeld.2.2.1, pw_cell_below hb hHeld.2.2.2.1, pw_cell_below hb hHeld.2.2.2.2.1, pw_cell_below hb hHeld.2.2.2.2.2.1, pw_cell_below hb hHeld.2.2.2.2.2.2⟩ (fun hHeld => ?_)
  clear hK K
  refine norm_ (a' := ?_) ?_ ?_
  rotate_left
  · show Act.put _ (some 50) _ = _
    simp only [Act.put, List.setIfInBounds_toArray, List.set_cons_zero, List.set_cons_succ, i64_w, i32_w]
    rfl
  refine one_ (i := 16) (N := some 52) #[true, true, true, true, true, true, true, true, true, true, true, true, true, true, true, true, true, false, false] rfl rfl (one_of HT_.out (by kernel_rfl)) (by decide) (fun K hK => ?_)
  refine goes_ Try.func30 (by kernel_rfl) rfl #[.agg #[.int .i64 x, .int .i64 y, .int .i64 z]] (by rfl) rfl rfl (by simp only [List.map_toArray, List.map_cons, List.map_nil]; rfl) ?_
  refine Calls.mono (HM2.out _) ?_
  rintro e w3 ⟨rfl, hb⟩
  refine ⟨_, rfl, ?_⟩
  refine hK.out _ _ ⟨hHeld.1.move hb, pw_cell_below hb hHeld.2.1, pw_cell_below hb hHeld.2.2.1, pw_cell_below hb hHeld.2.2.2.1, pw_cell_below hb hHeld.2.2.2.2.1, pw_cell_below hb hHeld.2.2.2.2.2.1, pw_cell_below hb hHeld.2.2.2.2.2.2⟩ (fun hHeld => ?_)
  clear hK K
  refine norm_ (a' := ?_) ?_ ?_
  rotate_left
  · show Act.put _ (some 52) _ = _
    simp only [Act.put, List.setIfInBounds_toArray, List.set_cons_zero, List.set_cons_succ, i64_w, i32_w]
    rfl
  refine pure_ (i := 17) (N := some 53) (v := ?_) (a' := ?_) #[true, true, true, true, true, true, true, true, true, true, true, true, true, true, true, true, true, true, false] rfl rfl (any_of HT_.out (by kernel_rfl)) (fun _ _ _ h => h) (Or.inl ⟨by rfl, ?_⟩) ?_ ?_
  rotate_left
  · intro w'
    go_simp
    with_reducible rfl
  rotate_left
  · simp only [Act.put, List.setIfInBounds_toArray, List.set_cons_zero, List.set_cons_succ, i64_w, i32_w]
    rfl
  refine pure_ (i := 18) (N := some 54) (v := ?_) (a' := ?_) #[true, true, true, true, true, true, true, true, true, true, true, true, true, true, true, true, true, true, true] rfl rfl (any_of HT_.out (by kernel_rfl)) (fun _ _ _ h => h) (Or.inl ⟨by rfl, ?_⟩) ?_ ?_
  rotate_left
  · intro w'
    go_simp
    with_reducible rfl
  rotate_left
  · simp only [Act.put, List.setIfInBounds_toArray, List.set_cons_zero, List.set_cons_succ, i64_w, i32_w]
    rfl
  refine done_ (done_of HT_.out (by kernel_rfl)) ?_
  have HX := Aside0.mk hHeld.1
  clear HX0 y0 y1 y2 u0 u1 u2 hHeld HT_ HW_ HC1 HC2 HR1 HR2 HM1 HM2
  have y0 := blkc HX.out.s 0 rfl
  have y1 := blkc HX.out.s 1 rfl
  have y2 := blkc HX.out.s 2 rfl
  have u0 := blkc HX.out.r 0 rfl
  have u1 := blkc HX.out.r 1 rfl
  have u2 := blkc HX.out.r 2 rfl
  go_wp2_with (first
    | (go_at_call 31; refine Calls.mono (HH1.out _) ?_; rintro e w5 ⟨v31, rfl, hr, hb⟩; have HV31 := Aside0.mk hr; clear hr; replace HX := Aside0.mk (HX.out.move hb); have y0 := blkc HX.out.s 0 rfl; have y1 := blkc HX.out.s 1 rfl; have y2 := blkc HX.out.s 2 rfl; have u0 := blkc HX.out.r 0 rfl; have u1 := blkc HX.out.r 1 rfl; have u2 := blkc HX.out.r 2 rfl; clear hb)
    | (go_at_call 32; refine Calls.mono (HH2.out _) ?_; rintro e w5 ⟨v32, rfl, hr, hb⟩; replace HV31 := Aside0.mk (HV31.out.below hb); have HV32 := Aside0.mk hr; clear hr; replace HX := Aside0.mk (HX.out.move hb); have y0 := blkc HX.out.s 0 rfl; have y1 := blkc HX.out.s 1 rfl; have y2 := blkc HX.out.s 2 rfl; have u0 := blkc HX.out.r 0 rfl; have u1 := blkc HX.out.r 1 rfl; have u2 := blkc HX.out.r 2 rfl; clear hb)
    | (go_at_call 25; refine Calls.mono (HE1.out _ _ _ HV31.out HV32.out) ?_; rintro e w5 ⟨rfl, hb⟩; clear HV31 HV32; replace HX := Aside0.mk (HX.out.move hb); have y0 := blkc HX.out.s 0 rfl; have y1 := blkc HX.out.s 1 rfl; have y2 := blkc HX.out.s 2 rfl; have u0 := blkc HX.out.r 0 rfl; have u1 := blkc HX.out.r 1 rfl; have u2 := blkc HX.out.r 2 rfl; clear hb)
    | (go_at_call 24; refine Calls.mono (HP1.out _ HX.out.below) ?_; rintro e w5 ⟨v24, rfl, hr, hb⟩; have HV24 := Aside0.mk hr; clear hr; replace HX := Aside0.mk (HX.out.move hb); have y0 := blkc HX.out.s 0 rfl; have y1 := blkc HX.out.s 1 rfl; have y2 := blkc HX.out.s 2 rfl; have u0 := blkc HX.out.r 0 rfl; have u1 := blkc HX.out.r 1 rfl; have u2 := blkc HX.out.r 2 rfl; clear hb)
    | (go_at_call 33; refine Calls.mono (HP2.out _ HX.out.below) ?_; rintro e w5 ⟨v33, rfl, hr, hb⟩; replace HV24 := Aside0.mk (HV24.out.below hb); have HV33 := Aside0.mk hr; clear hr; replace HX := Aside0.mk (HX.out.move hb); have y0 := blkc HX.out.s 0 rfl; have y1 := blkc HX.out.s 1 rfl; have y2 := blkc HX.out.s 2 rfl; have u0 := blkc HX.out.r 0 rfl; have u1 := blkc HX.out.r 1 rfl; have u2 := blkc HX.out.r 2 rfl; clear hb)
    | (go_at_call 25; refine Calls.mono (HE2.out _ _ _ HV24.out HV33.out) ?_; rintro e w5 ⟨rfl, hb⟩; clear HV24 HV33; replace HX := Aside0.mk (HX.out.move hb); have y0 := blkc HX.out.s 0 rfl; have y1 := blkc HX.out.s 1 rfl; have y2 := blkc HX.out.s 2 rfl; have u0 := blkc HX.out.r 0 rfl; have u1 := blkc HX.out.r 1 rfl; have u2 := blkc HX.out.r 2 rfl; clear hb)
    | (go_at_call 27; refine Calls.mono (HW1.out _) ?_; rintro e w5 ⟨rfl, hb⟩; replace HX := Aside0.mk (HX.out.move hb); have y0 := blkc HX.out.s 0 rfl; have y1 := blkc HX.out.s 1 rfl; have y2 := blkc HX.out.s 2 rfl; have u0 := blkc HX.out.r 0 rfl; have u1 := blkc HX.out.r 1 rfl; have u2 := blkc HX.out.r 2 rfl; clear hb)
    | (go_at_call 34; refine Calls.mono (HW2.out _) ?_; rintro e w5 ⟨rfl, hb⟩; replace HX := Aside0.mk (HX.out.move hb); have y0 := blkc HX.out.s 0 rfl; have y1 := blkc HX.out.s 1 rfl; have y2 := blkc HX.out.s 2 rfl; have u0 := blkc HX.out.r 0 rfl; have u1 := blkc HX.out.r 1 rfl; have u2 := blkc HX.out.r 2 rfl; clear hb)
    | (go_at_call 28; refine Calls.mono (HS1.out _) ?_; rintro e w5 ⟨rfl, hb⟩; replace HX := Aside0.mk (HX.out.move hb); have y0 := blkc HX.out.s 0 rfl; have y1 := blkc HX.out.s 1 rfl; have y2 := blkc HX.out.s 2 rfl; have u0 := blkc HX.out.r 0 rfl; have u1 := blkc HX.out.r 1 rfl; have u2 := blkc HX.out.r 2 rfl; clear hb)
    | (go_at_call 35; refine Calls.mono (HS2.out _) ?_; rintro e w5 ⟨rfl, hb⟩; replace HX := Aside0.mk (HX.out.move hb); have y0 := blkc HX.out.s 0 rfl; have y1 := blkc HX.out.s 1 rfl; have y2 := blkc HX.out.s 2 rfl; have u0 := blkc HX.out.r 0 rfl; have u1 := blkc HX.out.r 1 rfl; have u2 := blkc HX.out.r 2 rfl; clear hb))
  go_ret
  exact ⟨rfl, HX.out.below⟩
theorem rows7 (w : World) (x y z : Int) (a : Int) (wa : (Lit.int .u64 a).wf = true) (row : Int) (wr : (Lit.int .i64 row).wf = true) (xs : List Int) (A : Option Addr) (c : Nat) (hA : KB.C w A xs.length xs) (hc : xs.length ≤ c) (hw : ∀ x ∈ xs, (Lit.int .u8 x).wf = true) (at_ : Int) (ha : (Lit.int .i64 at_).wf = true) (m : Int) (hm : (Lit.int .i64 m).wf = true) : Calls Try.prog 7 #[.agg #[.int .i64 x, .int .i64 y, .int .i64 z], .int .u64 a, .int .i64 row, .slice A xs.length c, .int .i64 at_, .int .i64 m] w fun e w' => e = .returned (.bool true) ∧ Below w.heap.size w w' := by
  obtain ⟨seg, rfl, hseg⟩ := u64_of wa
  obtain ⟨b, hs⟩ := small_any x y z
  by_cases h : b = false ∨ 20000 < xs.length
  · exact rows7_off w x y z seg row at_ m A xs.length c b hs h
  · obtain rfl : b = true := by
      cases b
      · exact absurd (.inl rfl) h
      · rfl
    exact rows7_on w x y z row at_ m seg hseg A c xs hA hc (bytes_of hw) ha hm hs (by omega)
end Go.Proofs.Ytjnicooboiijgaa.Sg
