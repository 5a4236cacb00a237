/- Several texts of this session laid together: SgNw, SgCo, SgRo, SgOp, SgPd, SgAd, SgKn. -/
import Derived.Test.YtjnicooboiijgaaMSa
import Derived.Test.YtjnicooboiijgaaPSgx2
import Derived.OwnWalk
section
/-
  seg.NewWriter, Left, slices.Clone.
-/
set_option linter.unusedVariables false
set_option linter.unusedSimpArgs false
namespace Go.Proofs.Ytjnicooboiijgaa.Sg
open Go.RowKit Go.Proofs.YtjnicooboiijgaaW.PrintWords Go.Proofs.YtjnicooboiijgaaW.PrintLast Go.Proofs.YtjnicooboiijgaaW.PrintMore Go.Proofs.Ytjnicooboiijgaa.PSg Go.Proofs.Ytjnicooboiijgaa.Gf Go.Proofs.Ytjnicooboiijgaa.Rs
/-- A writer in memory. -/
def Wr (W : World) (g k pgs sz seg size : Nat) (rest : Value) : Prop := W.heap[g]? = some (.cells #[.int .i64 k, .int .i64 pgs, .int .i64 sz, .int .u64 seg, .int .i64 size, rest] 75 (0, 0))
theorem Wr.below {W W1 : World} {g k pgs sz seg size : Nat} {rest : Value} (h : Wr W g k pgs sz seg size rest) (hb : Below W.heap.size W W1) : Wr W1 g k pgs sz seg size rest := (hb.block _ (heap_lt h)).trans h
theorem Wr.cells {W : World} {g k pgs sz seg size : Nat} {rest : Value} (h : Wr W g k pgs sz seg size rest) :
    W.cell? ⟨g, 0, none⟩ = some (.int .i64 k) ∧ W.cell? ⟨g, 1, none⟩ = some (.int .i64 pgs) ∧ W.cell? ⟨g, 2, none⟩ = some (.int .i64 sz) ∧ W.cell? ⟨g, 3, none⟩ = some (.int .u64 seg) ∧ W.cell? ⟨g, 4, none⟩ = some (.int .i64 size) ∧ W.cell? ⟨g, 5, none⟩ = some rest :=
  ⟨by rw [cell_of_row W g 0 _ 75 (0, 0) h]; rfl, by rw [cell_of_row W g 1 _ 75 (0, 0) h]; rfl, by rw [cell_of_row W g 2 _ 75 (0, 0) h]; rfl, by rw [cell_of_row W g 3 _ 75 (0, 0) h]; rfl, by rw [cell_of_row W g 4 _ 75 (0, 0) h]; rfl, by rw [cell_of_row W g 5 _ 75 (0, 0) h]; rfl⟩
set_option maxHeartbeats 8000000 in
set_option maxRecDepth 100000 in
theorem new11_ok (w : World) (k pgs sz seg : Nat) (hf : Fits k pgs sz) :
    Calls Try.prog 11 #[.agg #[.int .i64 k, .int .i64 pgs, .int .i64 sz], .int .u64 seg] w fun e w' => ∃ g, e = .returned (.tuple #[.pointer (some ⟨g, 0, none⟩), .int .i64 0]) ∧ w.heap.size ≤ g ∧ Wr w' g k pgs sz seg 0 (.slice none 0 0) ∧ Below w.heap.size w w' := by
  have HC := Aside0.mk (fun (W : World) => check22 W hf)
  have HH := Aside0.mk (heap_alloc_last w (.cells #[.int .i64 k, .int .i64 pgs, .int .i64 sz] 23))
  have HB := Aside0.mk (below_alloc (Below.refl w.heap.size w) (.cells #[.int .i64 k, .int .i64 pgs, .int .i64 sz] 23))
  clear hf
  go_enter Try.func11, Try.ntmps11
  go_wp2_with (go_at_call 22; refine Calls.mono (HC.out _) ?_; rintro e w1 ⟨rfl, hb⟩; replace HH := Aside0.mk ((hb.block _ (heap_lt HH.out)).trans HH.out); replace HB := Aside0.mk (below_then HB.out HB.out.size hb); have y0 := (cell_of_row _ _ 0 _ 23 (0, 0) HH.out); have y1 := (cell_of_row _ _ 1 _ 23 (0, 0) HH.out); have y2 := (cell_of_row _ _ 2 _ 23 (0, 0) HH.out); simp only [List.getElem?_toArray, List.getElem?_cons_zero, List.getElem?_cons_succ] at y0 y1 y2; clear hb)
  go_ret2
  exact ⟨w1.heap.size, rfl, HB.out.size, heap_alloc_last _ _, below_alloc HB.out _⟩
def BytesQ (w : World) (xs : List Int) (r : Ending) (w' : World) : Prop := ∃ v', r = .returned v' ∧ Kd.R (Kd.int .u8) 5 w' w.heap.size (fun _ => True) v' xs ∧ Below w.heap.size w w'
set_option maxHeartbeats 4000000 in
theorem clone40 (w : World) (A : Option Addr) (c : Nat) (xs : List Int) (hC : Kd.C (Kd.int .u8) w A xs.length xs) (hc : xs.length ≤ c) (hl : xs.length ≤ 1000000000) :
    Calls Try.prog 40 #[.slice A xs.length c] w (BytesQ w xs) := by
  rcases A with _ | ad
  · have hx : xs = [] := by
      rcases xs with _ | ⟨x, xs⟩
      · rfl
      · obtain ⟨ad, e, _⟩ := hC.2.2 (by simp)
        cases e
    subst hx
    have heq : ∀ W : World, (binOp .eql 37 (.slice none 0 c) (.slice none 0 0)).run Try.prog W = .ok (.bool true) W := fun W => by kernel_rfl
    clear hC hc hl
    go_enter Try.func40, Try.ntmps40
    go_wp2_with fail
    go_ret
    exact ⟨_, rfl, Kd.R_nil _ _ _ _ _, Below.refl _ _⟩
  · obtain ⟨n, hn⟩ : ∃ n, xs.length = n := ⟨_, rfl⟩
    rw [hn] at hC hc hl ⊢
    have heq : ∀ W : World, (binOp .eql 37 (.slice (some ad) n c) (.slice none 0 0)).run Try.prog W = .ok (.bool false) W := fun W => by kernel_rfl
    have HC := Aside0.mk hC
    have HN := Aside0.mk hn
    clear hC hn hc
    go_enter Try.func40, Try.ntmps40
    go_wp2_with (first
      | ((with_reducible refine gate_dst (N := 5) rfl ?_); refine Kd.R_lit (Kd.int .u8) _ 5 ?hg (N := 5) ?hd (xs := ([] : List Int)) (inner := []) (ok := fun _ => True) (okp := fun _ => True) ?hr ?hp (fun _ hk => hk) trivial (Below.refl _ _) (Nat.le_refl _) (by simp) ?_; (case hd => rfl); (case hg => rfl); (case hr => first | (go_simp; done) | (go_simp; rfl)); (case hp => exact (Reps.none _ _)); intro v1 w1 ho hb hg_ hnew_; clear hg_ hnew_; have HO := Aside0.mk ho; have HB := Aside0.mk hb; clear ho hb)
      | ((with_reducible refine gate_builtin (b := .append) (xs := #[.tmp 5, .tmp 6]) rfl ?_); refine Kd.R_append_rows (Kd.int .u8) (Rr := (Kd.int .u8).K _) w.heap.size rfl (.tmp 5) (.tmp 6) 37 5 _ 1 rfl Try.underlying37 Go.Proofs.Ytjnicooboiijgaa.PSg.info5 rfl (by decide) (by decide) _ [] xs (some ad) n c (fun _ => True) (fun _ => False) rfl rfl HO.out (Kd.C_below HC.out HB.out) (fun x cs h => h) (fun _ h => h.elim) (fun _ _ => trivial) HB.out HB.out.size (by simp; omega) ?_; intro v2 w2 hR2 hB2 hg2 hat; clear hat hg2; have HR := Aside0.mk hR2; have HB2 := Aside0.mk hB2; clear hR2 hB2))
    go_ret
    exact ⟨_, rfl, HR.out, HB2.out⟩
theorem room_of {k pgs sz : Nat} (h : Fits k pgs sz) : seg_Room.f k pgs sz = some ((k * roomN sz * (pgs - 1) : Nat) : Int) := by
  unfold seg_Room.f
  rw [row_eq h]
  simp only [Option.bind_some]
  have h1 := row_lt h
  have h2 := h.p1
  have h3 := h.p2
  have h4 : k * roomN sz * (pgs - 1) ≤ 2097152 * 4095 := Nat.mul_le_mul h1 (by omega)
  congr 1
  rw [show wrap64 ((pgs : Int) - 1) = ((pgs - 1 : Nat) : Int) by unfold wrap64; omega, ← Int.natCast_mul]
  generalize k * roomN sz * (pgs - 1) = x at *
  unfold wrap64
  omega
theorem room26 (w : World) {k pgs sz : Nat} (h : Fits k pgs sz) : Calls Try.prog 26 #[.agg #[.int .i64 k, .int .i64 pgs, .int .i64 sz]] w fun e w' => e = .returned (.int .i64 (k * roomN sz * (pgs - 1) : Nat)) ∧ Below w.heap.size w w' := seg_Room.calls k pgs sz _ w (room_of h)
def left20.T1 : Bool × List (List Nat × List Nat) := (true, [([], []), ([0], [0]), ([1], [1]), ([2], [2]), ([3], [3]), ([], []), ([5], [5]), ([6], [6]), ([7], [7]), ([4, 8], [4, 8]), ([9, 4, 0, 1, 2, 3, 4, 5, 6, 7, 8, 9], [9])])
def left20.B1 : List Nat := [0, 1, 3, 7, 15, 0, 32, 96, 224, 511, 1023]
theorem left20.tab1 : rtab .any (opsOf Try.f20 1) = left20.T1 := by kernel_rfl
theorem left20.bits1 : waitsOk left20.T1.2 left20.B1 = true := by kernel_rfl
set_option maxHeartbeats 8000000 in
set_option maxRecDepth 100000 in
theorem left20 (w : World) (g k pgs sz seg size : Nat) (rest : Value) (hf : Fits k pgs sz) (hW : Wr w g k pgs sz seg size rest) (hs : size ≤ k * roomN sz * (pgs - 1)) :
    Calls Try.prog 20 #[.pointer (some ⟨g, 0, none⟩)] w fun e w' => e = .returned (.int .i64 (k * roomN sz * (pgs - 1) - size : Nat)) ∧ Below w.heap.size w w' := by
  have HR := Aside0.mk (fun (W : World) => room26 W hf)
  obtain ⟨x0, x1, x2, x3, x4, x5⟩ := hW.cells
  generalize hM : k * roomN sz * (pgs - 1) = M at *
  have hM9 : M ≤ 2097152 * 4095 := by rw [← hM]; exact Nat.mul_le_mul (row_lt hf) (by have := hf.p2; omega)
  have HS := Aside0.mk (show wrap64 ((M : Int) - (size : Int)) = ((M - size : Nat) : Int) by unfold wrap64; omega)
  clear x3 x5 hW hf hM
  go_enter Try.func20, Try.ntmps20
  go_wp2_with fail
  refine start_ (n := 11) (S := fun w' => w'.cell? ⟨g, 0, none⟩ = some (.int .i64 (k : Nat)) ∧ w'.cell? ⟨g, 1, none⟩ = some (.int .i64 (pgs : Nat)) ∧ w'.cell? ⟨g, 2, none⟩ = some (.int .i64 (sz : Nat)) ∧ w'.cell? ⟨g, 4, none⟩ = some (.int .i64 (size : Nat))) (ds := []) #[false, false, false, false, false, false, false, false, false, false, false] (by kernel_rfl) rfl rfl ⟨x0, x1, x2, x4⟩ (fun hHeld => ?_)
  refine with_tabW left20.tab1 left20.bits1 (fun HT_ HW_ => ?_)
  refine pure_ (i := 0) (N := some 3) (v := ?_) (a' := ?_) #[true, false, false, false, false, false, false, false, false, false, false] rfl rfl (any_of HT_.out (by kernel_rfl)) (fun _ _ _ h => h) (Or.inl ⟨by rfl, ?_⟩) ?_ ?_
  rotate_left
  · intro w'
    go_simp
    with_reducible rfl
  rotate_left
  · simp only [Act.put, List.setIfInBounds_toArray, List.set_cons_zero, List.set_cons_succ, i64_w, i32_w]
    rfl
  refine pure_ (i := 1) (N := some 4) (v := ?_) (a' := ?_) #[true, true, false, false, false, false, false, false, false, false, false] rfl rfl (any_of HT_.out (by kernel_rfl)) (fun _ _ _ h => h) (Or.inl ⟨by rfl, ?_⟩) ?_ ?_
  rotate_left
  · intro w'
    go_simp
    with_reducible rfl
  rotate_left
  · simp only [Act.put, List.setIfInBounds_toArray, List.set_cons_zero, List.set_cons_succ, i64_w, i32_w]
    rfl
  refine pure_ (i := 2) (N := some 5) (v := ?_) (a' := ?_) #[true, true, true, false, false, false, false, false, false, false, false] rfl rfl (any_of HT_.out (by kernel_rfl)) (fun _ _ _ h => h) (Or.inl ⟨by rfl, ?_⟩) ?_ ?_
  rotate_left
  · intro w'
    go_simp
    with_reducible rfl
  rotate_left
  · simp only [Act.put, List.setIfInBounds_toArray, List.set_cons_zero, List.set_cons_succ, i64_w, i32_w]
    rfl
  refine pure_ (i := 5) (N := some 8) (v := ?_) (a' := ?_) #[true, true, true, false, false, true, false, false, false, false, false] rfl rfl (any_of HT_.out (by kernel_rfl)) (fun _ _ _ h => h) (Or.inl ⟨by rfl, ?_⟩) ?_ ?_
  rotate_left
  · intro w'
    go_simp
    with_reducible rfl
  rotate_left
  · simp only [Act.put, List.setIfInBounds_toArray, List.set_cons_zero, List.set_cons_succ, i64_w, i32_w]
    rfl
  refine pure_ (i := 6) (N := some 9) (v := ?_) (a' := ?_) #[true, true, true, false, false, true, true, false, false, false, false] rfl rfl (any_of HT_.out (by kernel_rfl)) (fun _ _ _ h => h) (Or.inl ⟨by rfl, ?_⟩) ?_ ?_
  rotate_left
  · intro w'
    go_simp
    with_reducible rfl
  rotate_left
  · simp only [Act.put, List.setIfInBounds_toArray, List.set_cons_zero, List.set_cons_succ, i64_w, i32_w]
    rfl
  refine pure_ (i := 7) (N := some 10) (v := ?_) (a' := ?_) #[true, true, true, false, false, true, true, true, false, false, false] rfl rfl (any_of HT_.out (by kernel_rfl)) (fun _ _ _ h => h) (Or.inl ⟨by rfl, ?_⟩) ?_ ?_
  rotate_left
  · intro w'
    go_simp
    with_reducible rfl
  rotate_left
  · simp only [Act.put, List.setIfInBounds_toArray, List.set_cons_zero, List.set_cons_succ, i64_w, i32_w]
    rfl
  refine take_ (i := 3) (N := some 6) (v := ?_) (a' := ?_) #[true, true, true, true, false, true, true, true, false, false, false] rfl rfl (take_ofW HT_.out HW_.out (by kernel_rfl)) (fun _ _ _ h => h) (Or.inl ⟨by rfl, ?_⟩) hHeld ?_ ?_
  rotate_left
  · rintro w' ⟨s0, s1, s2, s3⟩
    go_simp
    with_reducible rfl
  rotate_left
  · simp only [Act.put, List.setIfInBounds_toArray, List.set_cons_zero, List.set_cons_succ, i64_w, i32_w]
    rfl
  refine take_ (i := 8) (N := some 11) (v := ?_) (a' := ?_) #[true, true, true, true, false, true, true, true, true, false, false] rfl rfl (take_ofW HT_.out HW_.out (by kernel_rfl)) (fun _ _ _ h => h) (Or.inl ⟨by rfl, ?_⟩) hHeld ?_ ?_
  rotate_left
  · rintro w' ⟨s0, s1, s2, s3⟩
    go_simp
    with_reducible rfl
  rotate_left
  · simp only [Act.put, List.setIfInBounds_toArray, List.set_cons_zero, List.set_cons_succ, i64_w, i32_w]
    rfl
  refine one_ (i := 4) (N := some 7) #[true, true, true, true, true, true, true, true, true, false, false] rfl rfl (one_of HT_.out (by kernel_rfl)) (by decide) (fun K hK => ?_)
  refine goes_ Try.func26 (by kernel_rfl) rfl #[.agg #[.int .i64 (k : Nat), .int .i64 (pgs : Nat), .int .i64 (sz : Nat)]] (by rfl) rfl rfl (by simp only [List.map_toArray, List.map_cons, List.map_nil]; rfl) ?_
  refine Calls.mono (HR.out _) ?_
  rintro e w2 ⟨rfl, hb⟩
  refine ⟨_, rfl, ?_⟩
  refine hK.out _ _ ⟨pw_cell_below hb hHeld.1, pw_cell_below hb hHeld.2.1, pw_cell_below hb hHeld.2.2.1, pw_cell_below hb hHeld.2.2.2⟩ (fun hHeld => ?_)
  clear hK K
  refine norm_ (a' := ?_) ?_ ?_
  rotate_left
  · show Act.put _ (some 7) _ = _
    simp only [Act.put, List.setIfInBounds_toArray, List.set_cons_zero, List.set_cons_succ, i64_w, i32_w]
    rfl
  refine pure_ (i := 9) (N := some 12) (v := ?_) (a' := ?_) #[true, true, true, true, true, true, true, true, true, true, false] rfl rfl (any_of HT_.out (by kernel_rfl)) (fun _ _ _ h => h) (Or.inl ⟨by rfl, ?_⟩) ?_ ?_
  rotate_left
  · intro w'
    go_simp
    with_reducible rfl
  rotate_left
  · simp only [Act.put, List.setIfInBounds_toArray, List.set_cons_zero, List.set_cons_succ, i64_w, i32_w]
    rfl
  refine pure_ (i := 10) (N := some 2) (v := ?_) (a' := ?_) #[true, true, true, true, true, true, true, true, true, true, true] rfl rfl (any_of HT_.out (by kernel_rfl)) (fun _ _ _ h => h) (Or.inl ⟨by rfl, ?_⟩) ?_ ?_
  rotate_left
  · intro w'
    go_simp
    with_reducible rfl
  rotate_left
  · simp only [Act.put, List.setIfInBounds_toArray, List.set_cons_zero, List.set_cons_succ, i64_w, i32_w]
    rfl
  refine done_ (done_of HT_.out (by kernel_rfl)) ?_
  go_wp2_with fail
  go_ret
  have h0 := below_drew (Below.refl w.heap.size w)
  exact ⟨by show Ending.returned (.int .i64 (wrap64 ((M : Int) - (size : Int)))) = _; rw [HS.out], below_then h0 h0.size hb⟩
end Go.Proofs.Ytjnicooboiijgaa.Sg
end

section
/-
  slices.Grow of nil, slices.Concat.
-/
set_option linter.unusedVariables false
set_option linter.unusedSimpArgs false
namespace Go.Proofs.Ytjnicooboiijgaa.Sg
open Go.RowKit Go.Proofs.YtjnicooboiijgaaW.PrintWords Go.Proofs.YtjnicooboiijgaaW.PrintLast Go.Proofs.YtjnicooboiijgaaW.PrintMore Go.Proofs.Ytjnicooboiijgaa.PSg Go.Proofs.Ytjnicooboiijgaa.Gf Go.Proofs.Ytjnicooboiijgaa.Rs
set_option maxHeartbeats 8000000 in
set_option maxRecDepth 100000 in
theorem grow50 (w : World) (n : Nat) (hn : n ≤ 3000000) :
    Calls Try.prog 50 #[.slice none 0 0, .int .i64 n] w (BytesQ w []) := by
  by_cases h0 : n = 0
  · subst h0
    go_enter Try.func50, Try.ntmps50
    go_wp2_with fail
    go_ret
    exact ⟨_, rfl, Kd.R_nil _ _ _ _ _, Below.refl _ _⟩
  · have c1 : decide ((n : Int) < 0) = false := decide_eq_false (by omega)
    have c2 : decide ((0 : Int) < (n : Int)) = true := decide_eq_true (by omega)
    have c3 : 0 < n := by omega
    go_enter Try.func50, Try.ntmps50
    go_wp2_with (first
      | ((with_reducible refine gate_builtin (b := .append) (xs := #[.tmp 20, .tmp 21]) rfl ?_); refine Kd.R_append_zeros KB (w0 := w) w.heap.size rfl (.tmp 20) (.tmp 21) 37 3 5 (.int .u8 0) 1 rfl Try.underlying37 Try.underlying3 Go.Proofs.Ytjnicooboiijgaa.PSg.info5 rfl (by decide) (by omega) (.slice none 0 0) [] 0 _ (fun _ => True) rfl rfl rfl (fun _ _ => trivial) (Kd.R_nil _ _ _ _ _) (by omega) (Below.refl _ _) (Nat.le_refl _) (by simp; omega) ?_
         intro v1 w1 ho hb hg hat
         rw [List.nil_append, Int.toNat_natCast] at ho
         obtain ⟨d, cap, ev, _, _⟩ := Kd.R_form ho (by rw [List.length_replicate]; exact c3)
         rw [List.length_replicate] at ev
         subst ev
         have hr := Kd.R_reads' (n := (List.replicate n (0 : Int)).length) (by rw [List.length_replicate]; exact ho)
         rw [List.length_replicate] at hr
         have HC := Aside0.mk hr.2.1
         have HR := Aside0.mk ho
         have HB := Aside0.mk hb
         have hcz : (n : Int) ≤ (cap : Int) := by have := hr.2.1; omega
         have hcz2 : (0 : Int) ≤ (cap : Int) := by omega
         clear ho hb hg hat hr))
    go_ret
    exact ⟨_, rfl, Kd.R_take (m := 0) HR.out (Nat.zero_le _), HB.out⟩
def sumT (l : List (List Int)) (k : Nat) : Nat := ((l.take k).map List.length).sum
theorem take_row {l : List (List Int)} {k : Nat} (h : k < l.length) : l.take (k + 1) = l.take k ++ [Gf.row l k] := by
  rw [List.take_succ_eq_append_getElem h]
  simp [Gf.row, List.getD, h]
theorem sumT_succ {l : List (List Int)} {k : Nat} (h : k < l.length) : sumT l (k + 1) = sumT l k + (Gf.row l k).length := by
  unfold sumT
  rw [take_row h, List.map_append, List.sum_append]
  simp
theorem sumT_le (l : List (List Int)) (k : Nat) : sumT l k ≤ (l.map List.length).sum := by
  unfold sumT
  have : ((l.take k).map List.length).sum + ((l.drop k).map List.length).sum = (l.map List.length).sum := by
    rw [← List.sum_append, ← List.map_append, List.take_append_drop]
  omega
theorem flat_len (l : List (List Int)) (k : Nat) : ((l.take k).flatten).length = sumT l k := by unfold sumT; rw [List.length_flatten]
theorem flat_succ {l : List (List Int)} {k : Nat} (h : k < l.length) : (l.take (k + 1)).flatten = (l.take k).flatten ++ Gf.row l k := by
  rw [take_row h, List.flatten_append]
  simp
set_option maxHeartbeats 8000000 in
set_option maxRecDepth 100000 in
theorem concat39 (w : World) (A : Option Addr) (c n : Nat) (l : List (List Int)) (hA : KR.C w A n l) (hn : n ≤ 1000) (hs : (l.map List.length).sum ≤ 3000000) :
    Calls Try.prog 39 #[.slice A n c] w (BytesQ w l.flatten) := by
  have hl : l.length = n := Kd.C_len hA
  have HA := Aside0.mk hA
  have HLL := Aside0.mk hl
  have HS := Aside0.mk (fun k => Nat.le_trans (sumT_le l k) hs)
  have HG := Aside0.mk (fun (W : World) (q : Nat) (hq : q ≤ 3000000) => grow50 W q hq)
  clear hA hl hs
  go_enter Try.func39, Try.ntmps39
  go_wp2_with fail
  go_loopw [3, 11] (fun sv iv W => ∃ (k : Nat), k ≤ n ∧ iv = .int .i64 k ∧ sv = .int .i64 (sumT l k : Nat) ∧ W = w) (fun _ iv _ => n - (intOf iv).toNat)
  case atStart => exact ⟨0, Nat.zero_le _, rfl, rfl, by first | rfl | trivial⟩
  case round =>
    obtain ⟨k, hk, rfl, rfl, rfl⟩ := hrel
    by_cases hkn : k < n
    · obtain ⟨ad, Ai, ci, eA, xh, hle, hI⟩ := rows_at HA.out (i := k) hkn
      subst eA
      have h1 := sumT_succ (l := l) (k := k) (by rw [HLL.out]; exact hkn)
      have h2 := HS.out (k + 1)
      have HS1 := Aside0.mk h1
      rw [h1] at h2
      generalize (Gf.row l k).length = li at *
      generalize sumT l k = sm at *
      have hkd : decide ((k : Int) < (n : Int)) = true := decide_eq_true (by omega)
      have hk0 : (0 : Int) ≤ (k : Int) := by omega
      have hk1 : (k : Int) < (n : Int) := by omega
      have hneg : decide ((sm : Int) + (li : Int) < 0) = false := decide_eq_false (by omega)
      clear hI hle h1
      go_wp2_with fail
      go_roundw
      case measure => simp [intOf]; omega
      case rel => exact ⟨k + 1, hkn, by go_num, by rw [HS1.out]; go_num, by first | rfl | trivial⟩
    · obtain rfl : k = n := by omega
      have hkd : decide ((k : Int) < (k : Int)) = false := decide_eq_false (by omega)
      have hsm := HS.out k
      obtain ⟨w0, hw0⟩ : ∃ w0, w0 = wr := ⟨_, rfl⟩
      subst hw0
      have HGk := Aside0.mk (fun (W : World) => HG.out W (sumT l k) hsm)
      clear HG
      go_wp2_with (go_at_call 50; refine Calls.mono (HGk.out _) ?_; rintro e w1 ⟨v, rfl, hR, hb⟩; have HR := Aside0.mk hR; have HB := Aside0.mk hb; clear hR hb)
      go_loopw [6, 27] (fun bv iv W => ∃ (q : Nat), q ≤ k ∧ iv = .int .i64 q ∧ Aside0 (KB.R 5 W w0.heap.size (fun _ => True) bv ((l.take q).flatten)) ∧ Aside0 (Below w0.heap.size w0 W)) (fun _ iv _ => k - (intOf iv).toNat)
      case atStart => exact ⟨0, Nat.zero_le _, rfl, HR, HB⟩
      case round =>
        clear HR HB
        obtain ⟨q, hq, rfl, HR, HB⟩ := hrel
        by_cases hqk : q < k
        · clear hq
          obtain ⟨ad, Ai, ci, eA, xh, hle, hI⟩ := rows_at HA.out (i := q) hqk
          subst eA
          replace xh := pw_cell_below HB.out xh
          have HI := Aside0.mk (Kd.C_below hI HB.out)
          have HF1 := Aside0.mk (flat_succ (l := l) (k := q) (by rw [HLL.out]; exact hqk))
          have HF2 := Aside0.mk (flat_len l q)
          have h3 := HS.out q
          have h4 := HS.out (q + 1)
          rw [sumT_succ (by rw [HLL.out]; exact hqk)] at h4
          have HX := Aside0.mk (show ((l.take q).flatten).length + (Gf.row l q).length ≤ 3000000 by rw [HF2.out]; exact h4)
          have hqd : decide ((q : Int) < (k : Int)) = true := decide_eq_true (by omega)
          have hq0 : (0 : Int) ≤ (q : Int) := by omega
          have hq1 : (q : Int) < (k : Int) := by omega
          clear hI hle h3 h4
          go_wp2_with (first
            | ((with_reducible refine gate_builtin (b := .append) (xs := #[.tmp 31, .tmp 32]) rfl ?_); refine Kd.R_append_rows KB (w0 := w0) w0.heap.size rfl (.tmp 31) (.tmp 32) 37 5 (.int .u8 0) 1 rfl Try.underlying37 Go.Proofs.Ytjnicooboiijgaa.PSg.info5 rfl (by decide) (by omega) u6 ((l.take q).flatten) (Gf.row l q) _ _ _ (fun _ => True) (fun _ => False) rfl rfl HR.out HI.out (fun _ _ h => h) (fun _ h => h.elim) (fun _ _ => trivial) HB.out HB.out.size (by have := HX.out; omega) ?_
               intro v7 w7 ho hb hg hat
               have HR7 := Aside0.mk ho
               have HB7 := Aside0.mk hb
               clear ho hb hg hat HR HB))
          go_roundw
          case measure => simp [intOf]; omega
          case rel => exact ⟨q + 1, hqk, by go_num, ⟨by rw [HF1.out]; exact HR7.out⟩, HB7⟩
        · obtain rfl : q = k := by omega
          have hqd : decide ((q : Int) < (q : Int)) = false := decide_eq_false (by omega)
          rw [List.take_of_length_le (by rw [HLL.out]; exact Nat.le_refl _)] at HR
          go_wp2_with fail
          go_ret
          exact ⟨_, rfl, HR.out, HB.out⟩
end Go.Proofs.Ytjnicooboiijgaa.Sg
end

section
/-
  (*seg.Writer).row: the row that ends the stream.
-/
set_option linter.unusedVariables false
set_option linter.unusedSimpArgs false
namespace Go.Proofs.Ytjnicooboiijgaa.Sg
open Go.RowKit Go.Proofs.YtjnicooboiijgaaW.PrintWords Go.Proofs.YtjnicooboiijgaaW.PrintLast Go.Proofs.YtjnicooboiijgaaW.PrintMore Go.Proofs.Ytjnicooboiijgaa.PSg Go.Proofs.Ytjnicooboiijgaa.Gf Go.Proofs.Ytjnicooboiijgaa.Rs
def row37.T1 : Bool × List (List Nat × List Nat) := (true, [([], []), ([0], [0]), ([1], [1]), ([2], [2]), ([], []), ([4], [4]), ([5], [5]), ([6], [6]), ([], []), ([], []), ([9], [9]), ([10], [10]), ([11], [11]), ([12], [12]), ([8, 13], [8, 13]), ([], []), ([3, 7, 14, 15, 13], [3, 7, 14, 15]), ([16], [16]), ([17], [17]), ([17], [17]), ([18, 16, 0, 1, 2, 3, 4, 5, 6, 7, 8, 9, 10, 11, 12, 13, 14, 15, 16, 17, 18], [18]), ([19, 20, 0, 1, 2, 3, 4, 5, 6, 7, 8, 9, 10, 11, 12, 13, 14, 15, 16, 17, 18, 19, 20], [19])])
def row37.B1 : List Nat := [0, 1, 3, 7, 0, 16, 48, 112, 0, 0, 512, 1536, 3584, 7680, 16128, 0, 65535, 131071, 262143, 262143, 524287, 2097151]
theorem row37.tab1 : rtab .any (opsOf Try.f37 1) = row37.T1 := by kernel_rfl
theorem row37.bits1 : waitsOk row37.T1.2 row37.B1 = true := by kernel_rfl
set_option maxHeartbeats 8000000 in
set_option maxRecDepth 100000 in
theorem row37 (w : World) (g k pgs sz seg size row n c N : Nat) (rest : Value) (hf : Fits k pgs sz) (hN : k * roomN sz = N) (hW : Wr w g k pgs sz seg size rest) (A : Option Addr) (xs : List Int) (hA : KB.C w A n xs) (hx : bytes xs = true) (hseg : seg < 18446744073709551616) (hr1 : 1 ≤ row) (hr2 : row < pgs) (hn : n ≤ N) :
    Calls Try.prog 37 #[.pointer (some ⟨g, 0, none⟩), .slice A n c, .int .i64 (row * N : Nat)] w (RowsO w (pagesL sz seg row (payL (padL xs N) k (roomN sz)))) := by
  have HR := Aside0.mk (fun (W : World) => (by have := row23 W hf; rw [hN] at this; exact this : Calls Try.prog 23 #[.agg #[.int .i64 k, .int .i64 pgs, .int .i64 sz]] W fun e w' => e = .returned (.int .i64 (N : Nat)) ∧ Below W.heap.size W w'))
  have HP := Aside0.mk (fun (W : World) (hW : Below w.heap.size w W) => (by have := pages24_ok W k pgs sz seg row n c hf A xs (Kd.C_below hA hW) hx hseg hr1 hr2 (by rw [hN]; exact hn); rw [hN] at this; exact this : Calls Try.prog 24 #[.agg #[.int .i64 k, .int .i64 pgs, .int .i64 sz], .int .u64 seg, .int .i64 row, .slice A n c] W fun e w' => ∃ v hs, e = .returned (.tuple #[v, .int .i64 0]) ∧ KH.R 37 w' W.heap.size (fun _ => True) v hs ∧ OwnM w' W.heap.size hs (pagesL sz seg row (payL (padL xs N) k (roomN sz))) ∧ Below W.heap.size W w'))
  have hrp := room_pos hf.s1 hf.s2
  have hNp : 0 < N := by rw [← hN]; exact Nat.mul_pos hf.k1 (by omega)
  have hN9 : N ≤ 2097152 := by rw [← hN]; exact row_lt hf
  have hp2 := hf.p2
  have hM9 : row * N ≤ 4096 * 2097152 := Nat.mul_le_mul (by omega) hN9
  obtain ⟨x0, x1, x2, x3, x4, x5⟩ := hW.cells
  have hq : Int.tdiv ((row * N : Nat) : Int) (N : Int) = (row : Int) := by
    rw [Int.natCast_mul, Int.mul_tdiv_cancel _ (by omega)]
  have hq2 : wrap64 (row : Int) = (row : Int) := by unfold wrap64; omega
  have hNz : ¬ N = 0 := by omega
  have hq3 : IntKind.i64.wrap (row : Int) = (row : Int) := by rw [i64_w]; exact hq2
  generalize row * N = en at *
  generalize payL (padL xs N) k (roomN sz) = PL at *
  clear x4 x5 hW hf hN hA hx hrp
  go_enter Try.func37, Try.ntmps37
  go_wp2_with fail
  refine start_ (n := 22) (S := fun w' => w'.cell? ⟨g, 0, none⟩ = some (.int .i64 (k : Nat)) ∧ w'.cell? ⟨g, 1, none⟩ = some (.int .i64 (pgs : Nat)) ∧ w'.cell? ⟨g, 2, none⟩ = some (.int .i64 (sz : Nat)) ∧ w'.cell? ⟨g, 3, none⟩ = some (.int .u64 (seg : Nat))) (ds := []) #[false, false, false, false, false, false, false, false, false, false, false, false, false, false, false, false, false, false, false, false, false, false] (by kernel_rfl) rfl rfl ⟨x0, x1, x2, x3⟩ (fun hHeld => ?_)
  refine with_tabW row37.tab1 row37.bits1 (fun HT_ HW_ => ?_)
  refine pure_ (i := 0) (N := some 10) (v := ?_) (a' := ?_) #[true, false, false, false, false, false, false, false, false, false, false, false, false, false, false, false, false, false, false, false, false, false] rfl rfl (any_of HT_.out (by kernel_rfl)) (fun _ _ _ h => h) (Or.inl ⟨by rfl, ?_⟩) ?_ ?_
  rotate_left
  · intro w'
    go_simp
    with_reducible rfl
  rotate_left
  · simp only [Act.put, List.setIfInBounds_toArray, List.set_cons_zero, List.set_cons_succ, i64_w, i32_w]
    rfl
  refine pure_ (i := 1) (N := some 11) (v := ?_) (a' := ?_) #[true, true, false, false, false, false, false, false, false, false, false, false, false, false, false, false, false, false, false, false, false, false] rfl rfl (any_of HT_.out (by kernel_rfl)) (fun _ _ _ h => h) (Or.inl ⟨by rfl, ?_⟩) ?_ ?_
  rotate_left
  · intro w'
    go_simp
    with_reducible rfl
  rotate_left
  · simp only [Act.put, List.setIfInBounds_toArray, List.set_cons_zero, List.set_cons_succ, i64_w, i32_w]
    rfl
  refine pure_ (i := 2) (N := some 12) (v := ?_) (a' := ?_) #[true, true, true, false, false, false, false, false, false, false, false, false, false, false, false, false, false, false, false, false, false, false] rfl rfl (any_of HT_.out (by kernel_rfl)) (fun _ _ _ h => h) (Or.inl ⟨by rfl, ?_⟩) ?_ ?_
  rotate_left
  · intro w'
    go_simp
    with_reducible rfl
  rotate_left
  · simp only [Act.put, List.setIfInBounds_toArray, List.set_cons_zero, List.set_cons_succ, i64_w, i32_w]
    rfl
  refine pure_ (i := 4) (N := some 14) (v := ?_) (a' := ?_) #[true, true, true, false, true, false, false, false, false, false, false, false, false, false, false, false, false, false, false, false, false, false] rfl rfl (any_of HT_.out (by kernel_rfl)) (fun _ _ _ h => h) (Or.inl ⟨by rfl, ?_⟩) ?_ ?_
  rotate_left
  · intro w'
    go_simp
    with_reducible rfl
  rotate_left
  · simp only [Act.put, List.setIfInBounds_toArray, List.set_cons_zero, List.set_cons_succ, i64_w, i32_w]
    rfl
  refine pure_ (i := 5) (N := some 15) (v := ?_) (a' := ?_) #[true, true, true, false, true, true, false, false, false, false, false, false, false, false, false, false, false, false, false, false, false, false] rfl rfl (any_of HT_.out (by kernel_rfl)) (fun _ _ _ h => h) (Or.inl ⟨by rfl, ?_⟩) ?_ ?_
  rotate_left
  · intro w'
    go_simp
    with_reducible rfl
  rotate_left
  · simp only [Act.put, List.setIfInBounds_toArray, List.set_cons_zero, List.set_cons_succ, i64_w, i32_w]
    rfl
  refine pure_ (i := 6) (N := some 16) (v := ?_) (a' := ?_) #[true, true, true, false, true, true, true, false, false, false, false, false, false, false, false, false, false, false, false, false, false, false] rfl rfl (any_of HT_.out (by kernel_rfl)) (fun _ _ _ h => h) (Or.inl ⟨by rfl, ?_⟩) ?_ ?_
  rotate_left
  · intro w'
    go_simp
    with_reducible rfl
  rotate_left
  · simp only [Act.put, List.setIfInBounds_toArray, List.set_cons_zero, List.set_cons_succ, i64_w, i32_w]
    rfl
  refine pure_ (i := 8) (N := some 18) (v := ?_) (a' := ?_) #[true, true, true, false, true, true, true, false, true, false, false, false, false, false, false, false, false, false, false, false, false, false] rfl rfl (any_of HT_.out (by kernel_rfl)) (fun _ _ _ h => h) (Or.inl ⟨by rfl, ?_⟩) ?_ ?_
  rotate_left
  · intro w'
    go_simp
    with_reducible rfl
  rotate_left
  · simp only [Act.put, List.setIfInBounds_toArray, List.set_cons_zero, List.set_cons_succ, i64_w, i32_w]
    rfl
  refine pure_ (i := 9) (N := some 19) (v := ?_) (a' := ?_) #[true, true, true, false, true, true, true, false, true, true, false, false, false, false, false, false, false, false, false, false, false, false] rfl rfl (any_of HT_.out (by kernel_rfl)) (fun _ _ _ h => h) (Or.inl ⟨by rfl, ?_⟩) ?_ ?_
  rotate_left
  · intro w'
    go_simp
    with_reducible rfl
  rotate_left
  · simp only [Act.put, List.setIfInBounds_toArray, List.set_cons_zero, List.set_cons_succ, i64_w, i32_w]
    rfl
  refine pure_ (i := 10) (N := some 20) (v := ?_) (a' := ?_) #[true, true, true, false, true, true, true, false, true, true, true, false, false, false, false, false, false, false, false, false, false, false] rfl rfl (any_of HT_.out (by kernel_rfl)) (fun _ _ _ h => h) (Or.inl ⟨by rfl, ?_⟩) ?_ ?_
  rotate_left
  · intro w'
    go_simp
    with_reducible rfl
  rotate_left
  · simp only [Act.put, List.setIfInBounds_toArray, List.set_cons_zero, List.set_cons_succ, i64_w, i32_w]
    rfl
  refine pure_ (i := 11) (N := some 21) (v := ?_) (a' := ?_) #[true, true, true, false, true, true, true, false, true, true, true, true, false, false, false, false, false, false, false, false, false, false] rfl rfl (any_of HT_.out (by kernel_rfl)) (fun _ _ _ h => h) (Or.inl ⟨by rfl, ?_⟩) ?_ ?_
  rotate_left
  · intro w'
    go_simp
    with_reducible rfl
  rotate_left
  · simp only [Act.put, List.setIfInBounds_toArray, List.set_cons_zero, List.set_cons_succ, i64_w, i32_w]
    rfl
  refine pure_ (i := 15) (N := some 25) (v := ?_) (a' := ?_) #[true, true, true, false, true, true, true, false, true, true, true, true, false, false, false, true, false, false, false, false, false, false] rfl rfl (any_of HT_.out (by kernel_rfl)) (fun _ _ _ h => h) (Or.inl ⟨by rfl, ?_⟩) ?_ ?_
  rotate_left
  · intro w'
    go_simp
    with_reducible rfl
  rotate_left
  · simp only [Act.put, List.setIfInBounds_toArray, List.set_cons_zero, List.set_cons_succ, i64_w, i32_w]
    rfl
  refine take_ (i := 3) (N := some 13) (v := ?_) (a' := ?_) #[true, true, true, true, true, true, true, false, true, true, true, true, false, false, false, true, false, false, false, false, false, false] rfl rfl (take_ofW HT_.out HW_.out (by kernel_rfl)) (fun _ _ _ h => h) (Or.inl ⟨by rfl, ?_⟩) hHeld ?_ ?_
  rotate_left
  · rintro w' ⟨s0, s1, s2, s3⟩
    go_simp
    with_reducible rfl
  rotate_left
  · simp only [Act.put, List.setIfInBounds_toArray, List.set_cons_zero, List.set_cons_succ, i64_w, i32_w]
    rfl
  refine take_ (i := 7) (N := some 17) (v := ?_) (a' := ?_) #[true, true, true, true, true, true, true, true, true, true, true, true, false, false, false, true, false, false, false, false, false, false] rfl rfl (take_ofW HT_.out HW_.out (by kernel_rfl)) (fun _ _ _ h => h) (Or.inl ⟨by rfl, ?_⟩) hHeld ?_ ?_
  rotate_left
  · rintro w' ⟨s0, s1, s2, s3⟩
    go_simp
    with_reducible rfl
  rotate_left
  · simp only [Act.put, List.setIfInBounds_toArray, List.set_cons_zero, List.set_cons_succ, i64_w, i32_w]
    rfl
  refine take_ (i := 12) (N := some 22) (v := ?_) (a' := ?_) #[true, true, true, true, true, true, true, true, true, true, true, true, true, false, false, true, false, false, false, false, false, false] rfl rfl (take_ofW HT_.out HW_.out (by kernel_rfl)) (fun _ _ _ h => h) (Or.inl ⟨by rfl, ?_⟩) hHeld ?_ ?_
  rotate_left
  · rintro w' ⟨s0, s1, s2, s3⟩
    go_simp
    with_reducible rfl
  rotate_left
  · simp only [Act.put, List.setIfInBounds_toArray, List.set_cons_zero, List.set_cons_succ, i64_w, i32_w]
    rfl
  refine one_ (i := 13) (N := some 23) #[true, true, true, true, true, true, true, true, true, true, true, true, true, true, false, true, false, false, false, false, false, false] rfl rfl (one_of HT_.out (by kernel_rfl)) (by decide) (fun K hK => ?_)
  refine goes_ Try.func23 (by kernel_rfl) rfl #[.agg #[.int .i64 (k : Nat), .int .i64 (pgs : Nat), .int .i64 (sz : Nat)]] (by rfl) rfl rfl (by simp only [List.map_toArray, List.map_cons, List.map_nil]; rfl) ?_
  refine Calls.mono (HR.out _) ?_
  rintro e w2 ⟨rfl, hb⟩
  refine ⟨_, rfl, ?_⟩
  refine hK.out _ _ ⟨pw_cell_below hb hHeld.1, pw_cell_below hb hHeld.2.1, pw_cell_below hb hHeld.2.2.1, pw_cell_below hb hHeld.2.2.2⟩ (fun hHeld => ?_)
  clear hK K
  refine norm_ (a' := ?_) ?_ ?_
  rotate_left
  · show Act.put _ (some 23) _ = _
    simp only [Act.put, List.setIfInBounds_toArray, List.set_cons_zero, List.set_cons_succ, i64_w, i32_w]
    rfl
  refine pure_ (i := 14) (N := some 24) (v := ?_) (a' := ?_) #[true, true, true, true, true, true, true, true, true, true, true, true, true, true, true, true, false, false, false, false, false, false] rfl rfl (any_of HT_.out (by kernel_rfl)) (fun _ _ _ h => h) (Or.inl ⟨by rfl, ?_⟩) ?_ ?_
  rotate_left
  · intro w'
    go_simp
    with_reducible rfl
  rotate_left
  · simp only [Act.put, List.setIfInBounds_toArray, List.set_cons_zero, List.set_cons_succ, i64_w, i32_w]
    rfl
  refine one_ (i := 16) (N := some 26) #[true, true, true, true, true, true, true, true, true, true, true, true, true, true, true, true, true, false, false, false, false, false] rfl rfl (one_of HT_.out (by kernel_rfl)) (by decide) (fun K hK => ?_)
  refine goes_ Try.func24 (by kernel_rfl) rfl #[.agg #[.int .i64 (k : Nat), .int .i64 (pgs : Nat), .int .i64 (sz : Nat)], .int .u64 (seg : Nat), .int .i64 (row : Nat), .slice A n c] (by rfl) rfl rfl (by simp only [List.map_toArray, List.map_cons, List.map_nil]; rfl) ?_
  refine Calls.mono (HP.out _ (below_then (below_drew (Below.refl w.heap.size w)) (below_drew (Below.refl w.heap.size w)).size hb)) ?_
  rintro e w3 ⟨v3, hs3, rfl, hH3, hO3, hb3⟩
  refine ⟨_, rfl, ?_⟩
  refine hK.out _ _ ⟨pw_cell_below hb3 hHeld.1, pw_cell_below hb3 hHeld.2.1, pw_cell_below hb3 hHeld.2.2.1, pw_cell_below hb3 hHeld.2.2.2⟩ (fun hHeld => ?_)
  clear hK K
  refine norm_ (a' := ?_) ?_ ?_
  rotate_left
  · show Act.put _ (some 26) _ = _
    simp only [Act.put, List.setIfInBounds_toArray, List.set_cons_zero, List.set_cons_succ, i64_w, i32_w]
    rfl
  refine pure_ (i := 17) (N := some 9) (v := ?_) (a' := ?_) #[true, true, true, true, true, true, true, true, true, true, true, true, true, true, true, true, true, true, false, false, false, false] rfl rfl (any_of HT_.out (by kernel_rfl)) (fun _ _ _ h => h) (Or.inl ⟨by rfl, ?_⟩) ?_ ?_
  rotate_left
  · intro w'
    go_simp
    with_reducible rfl
  rotate_left
  · simp only [Act.put, List.setIfInBounds_toArray, List.set_cons_zero, List.set_cons_succ, i64_w, i32_w]
    rfl
  refine pure_ (i := 18) (N := some 27) (v := ?_) (a' := ?_) #[true, true, true, true, true, true, true, true, true, true, true, true, true, true, true, true, true, true, true, false, false, false] rfl rfl (any_of HT_.out (by kernel_rfl)) (fun _ _ _ h => h) (Or.inl ⟨by rfl, ?_⟩) ?_ ?_
  rotate_left
  · intro w'
    go_simp
    with_reducible rfl
  rotate_left
  · simp only [Act.put, List.setIfInBounds_toArray, List.set_cons_zero, List.set_cons_succ, i64_w, i32_w]
    rfl
  refine pure_ (i := 19) (N := some 28) (v := ?_) (a' := ?_) #[true, true, true, true, true, true, true, true, true, true, true, true, true, true, true, true, true, true, true, true, false, false] rfl rfl (any_of HT_.out (by kernel_rfl)) (fun _ _ _ h => h) (Or.inl ⟨by rfl, ?_⟩) ?_ ?_
  rotate_left
  · intro w'
    go_simp
    with_reducible rfl
  rotate_left
  · simp only [Act.put, List.setIfInBounds_toArray, List.set_cons_zero, List.set_cons_succ, i64_w, i32_w]
    rfl
  refine pure_ (i := 20) (N := some 7) (v := ?_) (a' := ?_) #[true, true, true, true, true, true, true, true, true, true, true, true, true, true, true, true, true, true, true, true, true, false] rfl rfl (any_of HT_.out (by kernel_rfl)) (fun _ _ _ h => h) (Or.inl ⟨by rfl, ?_⟩) ?_ ?_
  rotate_left
  · intro w'
    go_simp
    with_reducible rfl
  rotate_left
  · simp only [Act.put, List.setIfInBounds_toArray, List.set_cons_zero, List.set_cons_succ, i64_w, i32_w]
    rfl
  refine pure_ (i := 21) (N := some 8) (v := ?_) (a' := ?_) #[true, true, true, true, true, true, true, true, true, true, true, true, true, true, true, true, true, true, true, true, true, true] rfl rfl (any_of HT_.out (by kernel_rfl)) (fun _ _ _ h => h) (Or.inl ⟨by rfl, ?_⟩) ?_ ?_
  rotate_left
  · intro w'
    go_simp
    with_reducible rfl
  rotate_left
  · simp only [Act.put, List.setIfInBounds_toArray, List.set_cons_zero, List.set_cons_succ, i64_w, i32_w]
    rfl
  refine done_ (done_of HT_.out (by kernel_rfl)) ?_
  have h0 := below_drew (Below.refl w.heap.size w)
  have h1 := below_then h0 h0.size hb
  have HE1 := Aside0.mk (Kd.R_lower hH3 h1.size)
  have HE2 := Aside0.mk (hO3.lower h1.size)
  have HE3 := Aside0.mk (below_then h1 h1.size hb3)
  clear hH3 hO3 hb3 hHeld
  go_wp2_with fail
  go_ret
  exact ⟨_, _, rfl, HE1.out, HE2.out, HE3.out⟩
end Go.Proofs.Ytjnicooboiijgaa.Sg
end

section
/-
  Rows of rows of the call's own; a world behind a call that sets the writer alone.
-/
set_option linter.unusedVariables false
set_option linter.unusedSimpArgs false
namespace Go.Proofs.Ytjnicooboiijgaa.Sg
open Go.RowKit Go.Proofs.YtjnicooboiijgaaW.PrintWords Go.Proofs.YtjnicooboiijgaaW.PrintLast Go.Proofs.YtjnicooboiijgaaW.PrintMore Go.Proofs.Ytjnicooboiijgaa.PSg Go.Proofs.Ytjnicooboiijgaa.Gf Go.Proofs.Ytjnicooboiijgaa.Rs
theorem Wr.size {W : World} {g k pgs sz seg size : Nat} {rest : Value} (h : Wr W g k pgs sz seg size rest) (s2 : Nat) : Wr (W.setCell ⟨g, 4, none⟩ (.int .i64 s2)) g k pgs sz seg s2 rest := by
  unfold Wr at *
  rw [blkset h 4 (.int .i64 s2)]
  rfl
theorem Wr.rest {W : World} {g k pgs sz seg size : Nat} {rest : Value} (h : Wr W g k pgs sz seg size rest) (v : Value) : Wr (W.setCell ⟨g, 5, none⟩ v) g k pgs sz seg size v := by
  unfold Wr at *
  rw [blkset h 5 v]
  rfl
theorem Wr.free {W : World} {g k pgs sz seg size : Nat} {rest : Value} (h : Wr W g k pgs sz seg size rest) (j : Nat) : W.frozen? ⟨g, j, none⟩ = false := frozen_blk h
theorem Wr.keep {W : World} {g k pgs sz seg size base : Nat} {rest v : Value} {xs : List Int} (h : Wr W g k pgs sz seg size rest) (hr : KB.R 5 W base (fun _ => True) v xs) (j : Nat) (u : Value) : KB.R 5 (W.setCell ⟨g, j, none⟩ u) base (fun _ => True) v xs := Kd.R_set hr h (by simp [KB, Kd.int, Kd.scalar]) j u
theorem info51 : (Try.prog.info? 51).map (fun i => (i.zero, i.size, i.bytes)) = some (some (.slice none 0 0), 1, 24) := by kernel_rfl
/-- Rows of rows of the call's own. -/
structure OwnP (W : World) (base : Nat) (hds : List Hd) (P : List (List (List Int))) : Prop where
  len : hds.length = P.length
  rows : ∀ (i : Nat) (x : Hd), hds[i]? = some x → ∃ hs : List Hd, x.2.1 = hs.length ∧ KH.R 37 W base (fun _ => True) (.slice x.1 x.2.1 x.2.2) hs ∧ OwnM W base hs (P.getD i [])
theorem OwnP.nil (W : World) (base : Nat) : OwnP W base [] [] := ⟨rfl, fun i x hx => by simp at hx⟩
theorem OwnP.lower {W : World} {base base' : Nat} {hds : List Hd} {P : List (List (List Int))} (h : OwnP W base hds P) (hb : base' ≤ base) : OwnP W base' hds P :=
  ⟨h.len, fun i x hx => by obtain ⟨hs, h1, h2, h3⟩ := h.rows i x hx; exact ⟨hs, h1, Kd.R_lower h2 hb, h3.lower hb⟩⟩
theorem OwnP.below {W W1 : World} {base : Nat} {hds : List Hd} {P : List (List (List Int))} (h : OwnP W base hds P) (hb : Below W.heap.size W W1) : OwnP W1 base hds P :=
  ⟨h.len, fun i x hx => by obtain ⟨hs, h1, h2, h3⟩ := h.rows i x hx; exact ⟨hs, h1, Kd.R_below h2 hb, h3.below hb⟩⟩
theorem _root_.Go.Proofs.Ytjnicooboiijgaa.Rs.OwnM.over51 {W W1 : World} {base base' : Nat} {hs hs' : List Hd} {l : List (List Int)} {v : Value} {ok : Nat → Prop} (h : OwnM W base hs l) (hv : KH.R 51 W base' ok v hs') (hg : W.grownBy W1 v.ownBlock) : OwnM W1 base hs l := h.move fun _ _ h => Kd.R_over h hv (by simp [KB, Kd.int, Kd.scalar]) hg
theorem OwnP.over {W W1 : World} {base base' : Nat} {hds hs' : List Hd} {P : List (List (List Int))} {v : Value} {ok : Nat → Prop} (h : OwnP W base hds P) (hv : KH.R 51 W base' ok v hs') (hg : W.grownBy W1 v.ownBlock) : OwnP W1 base hds P :=
  ⟨h.len, fun i x hx => by obtain ⟨hs, h1, h2, h3⟩ := h.rows i x hx; exact ⟨hs, h1, Kd.R_over h2 hv (by simp [KH, Kd.scalar]) hg, h3.over51 hv hg⟩⟩
theorem OwnP.set {W : World} {base g : Nat} {hds : List Hd} {P : List (List (List Int))} {cells : Array Value} (h : OwnP W base hds P) (hb : W.heap[g]? = some (.cells cells 75 (0, 0))) (j : Nat) (u : Value) : OwnP (W.setCell ⟨g, j, none⟩ u) base hds P :=
  ⟨h.len, fun i x hx => by
    obtain ⟨hs, h1, h2, h3⟩ := h.rows i x hx
    exact ⟨hs, h1, Kd.R_set h2 hb (by simp [KH, Kd.scalar]) j u, h3.move fun _ _ h => Kd.R_set h hb (by simp [KB, Kd.int, Kd.scalar]) j u⟩⟩
theorem OwnP.snoc {W : World} {base c n : Nat} {A : Option Addr} {hds hs : List Hd} {P : List (List (List Int))} {l : List (List Int)} (h : OwnP W base hds P) (hn : n = hs.length) (hR : KH.R 37 W base (fun _ => True) (.slice A n c) hs) (hO : OwnM W base hs l) : OwnP W base (hds ++ [(A, n, c)]) (P ++ [l]) := by
  refine ⟨by simp [h.len], fun i y hy => ?_⟩
  rcases Nat.lt_or_ge i hds.length with hi | hi
  · rw [List.getElem?_append_left hi] at hy
    have e : (P ++ [l]).getD i [] = P.getD i [] := by
      rw [List.getD_eq_getElem?_getD, List.getElem?_append_left (by rw [← h.len]; exact hi), List.getD_eq_getElem?_getD]
    rw [e]
    exact h.rows i y hy
  · rw [List.getElem?_append_right hi] at hy
    have hi0 : i - hds.length = 0 := by
      have := (List.getElem?_eq_some_iff.1 hy).1
      simp at this
      omega
    rw [hi0] at hy
    obtain rfl := Option.some.inj hy
    have e : (P ++ [l]).getD i [] = l := by
      rw [List.getD_eq_getElem?_getD, List.getElem?_append_right (by rw [← h.len]; exact hi), ← h.len, hi0]
      rfl
    rw [e]
    exact ⟨hs, hn, hR, hO⟩
/-- The pages of row `row` of bytes. -/
def rowP (sz seg row k N : Nat) (xs : List Int) : List (List Int) := pagesL sz seg row (payL (padL xs N) k (roomN sz))
/-- The rows of bytes, of N each, from row q on. -/
def rowsP (sz seg q k N m : Nat) (zs : List Int) : List (List (List Int)) := (List.range m).map fun i => rowP sz seg (q + 1 + i) k N (chunk zs N i)
theorem rowsP_len {sz seg q k N m : Nat} {zs : List Int} : (rowsP sz seg q k N m zs).length = m := by simp [rowsP]
theorem rowsP_succ {sz seg q k N m : Nat} {zs : List Int} : rowsP sz seg q k N (m + 1) zs = rowsP sz seg q k N m zs ++ [rowP sz seg (q + 1 + m) k N (chunk zs N m)] := by unfold rowsP; rw [List.range_succ, List.map_append]; rfl
/-- What was ahead of w0 stands; of what was in w, all but the block g. -/
structure BK (w0 w : World) (g : Nat) (W : World) : Prop where
  below : Below w0.heap.size w0 W
  keep : KeepBut w W g none
theorem BK.refl {w0 w : World} {g : Nat} (h : Below w0.heap.size w0 w) : BK w0 w g w := ⟨h, KeepBut.refl _ _ _⟩
theorem BK.then {w0 w W W1 : World} {g : Nat} (h : BK w0 w g W) (hb : Below W.heap.size W W1) : BK w0 w g W1 :=
  ⟨below_then h.below h.below.size hb, h.keep.trans (KeepBut.of_below hb g none) (.inl rfl)⟩
theorem BK.set {w0 w W : World} {g : Nat} (h : BK w0 w g W) (hg : w0.heap.size ≤ g) (j : Nat) (u : Value) : BK w0 w g (W.setCell ⟨g, j, none⟩ u) :=
  ⟨below_set h.below hg, h.keep.set_ j u⟩
theorem BK.alloc {w0 w W : World} {g : Nat} (h : BK w0 w g W) (o : Obj) : BK w0 w g (W.alloc o) := h.then (below_alloc (Below.refl _ _) o)
theorem BK.size {w0 w W : World} {g : Nat} (h : BK w0 w g W) : w.heap.size ≤ W.heap.size := h.keep.1
/-- One header in a row of the call's own. -/
theorem KH_one {W : World} {b m c base e : Nat} {A : Option Addr} (h : W.heap[b]? = some (.cells #[.slice A m c] e (0, 0))) (hb : base ≤ b) : KH.R e W base (fun _ => True) (.slice (some ⟨b, 0, none⟩) 1 1) [(A, m, c)] := by
  refine Kd.R_of_own ⟨?_, .inr ⟨b, 1, #[.slice A m c], ?_, hb, h, ?_, ?_, ?_, ?_⟩⟩ ?_
  · simp [encs]
  · simp
  · simp
  · unfold maxLen; omega
  · simp
  · simp [encs]
  · intro k _; trivial
theorem OwnP.one {W : World} {base : Nat} {A : Option Addr} {c : Nat} {hs : List Hd} {l : List (List Int)} (hR : KH.R 37 W base (fun _ => True) (.slice A hs.length c) hs) (hO : OwnM W base hs l) : OwnP W base [(A, hs.length, c)] [l] :=
  ⟨rfl, fun i x hx => by
    match i, hx with
    | 0, hx => obtain rfl := Option.some.inj hx; exact ⟨hs, rfl, hR, hO⟩⟩
end Go.Proofs.Ytjnicooboiijgaa.Sg
end

section
/-
  (*seg.Writer).Pad.
-/
set_option linter.unusedVariables false
set_option linter.unusedSimpArgs false
namespace Go.Proofs.Ytjnicooboiijgaa.Sg
open Go.RowKit Go.Proofs.YtjnicooboiijgaaW.PrintWords Go.Proofs.YtjnicooboiijgaaW.PrintLast Go.Proofs.YtjnicooboiijgaaW.PrintMore Go.Proofs.Ytjnicooboiijgaa.PSg Go.Proofs.Ytjnicooboiijgaa.Gf Go.Proofs.Ytjnicooboiijgaa.Rs
def pad15a.T3 : Bool × List (List Nat × List Nat) := (true, [([], []), ([0], [0]), ([1], [1]), ([2], [2]), ([], []), ([4], [4]), ([5], [5]), ([6], [6]), ([7], [7]), ([], []), ([9], [9]), ([10], [10]), ([11], [11]), ([12], [12]), ([8, 13], [8, 13]), ([3, 14], [3, 14]), ([0, 0, 1, 2, 3, 4, 5, 6, 7, 8, 9, 10, 11, 12, 13, 14, 15], [0]), ([16, 0, 1, 2, 3, 4, 5, 6, 7, 8, 9, 10, 11, 12, 13, 14, 15], [16]), ([17, 15, 8, 0, 1, 2, 3, 4, 5, 6, 7, 8, 9, 10, 11, 12, 13, 14, 15], [15, 17])])
def pad15a.B3 : List Nat := [0, 1, 3, 7, 0, 16, 48, 112, 240, 0, 512, 1536, 3584, 7680, 16368, 32767, 65535, 131071, 262143]
theorem pad15a.tab3 : rtab .any (opsOf Try.f15 3) = pad15a.T3 := by kernel_rfl
theorem pad15a.bits3 : waitsOk pad15a.T3.2 pad15a.B3 = true := by kernel_rfl
def pad15b.T4 : Bool × List (List Nat × List Nat) := (true, [([], []), ([], []), ([1], [1]), ([2], [2]), ([3], [3]), ([], []), ([5], [5]), ([6], [6]), ([7], [7]), ([0, 4, 8], [0, 4, 8]), ([9, 9, 0, 1, 2, 3, 4, 5, 6, 7, 8, 9], [9])])
def pad15b.B4 : List Nat := [0, 0, 2, 6, 14, 0, 32, 96, 224, 511, 1023]
theorem pad15b.tab4 : rtab .any (opsOf Try.f15 4) = pad15b.T4 := by kernel_rfl
theorem pad15b.bits4 : waitsOk pad15b.T4.2 pad15b.B4 = true := by kernel_rfl
set_option maxHeartbeats 8000000 in
set_option maxRecDepth 100000 in
theorem pad15_yes (w0 w : World) (g k pgs sz seg q N nr cr : Nat) (Ar : Option Addr) (hf : Fits k pgs sz) (hN : k * roomN sz = N) (hg : w0.heap.size ≤ g) (hB : Below w0.heap.size w0 w) (xs : List Int) (hW : Wr w g k pgs sz seg (q * N + nr) (.slice Ar nr cr)) (hR : KB.R 5 w w0.heap.size (fun _ => True) (.slice Ar nr cr) xs) (hx : bytes xs = true) (hseg : seg < 18446744073709551616) (h0 : 0 < nr) (h1 : nr ≤ N) (hq : q + 1 < pgs) :
    Calls Try.prog 15 #[.pointer (some ⟨g, 0, none⟩)] w fun e w' => ∃ A m hds, e = .returned (.slice A 1 m) ∧ 1 ≤ m ∧ KH.R 51 w' w.heap.size (fun _ => True) (.slice A 1 m) hds ∧ OwnP w' w.heap.size hds [rowP sz seg (q + 1) k N xs] ∧ Wr w' g k pgs sz seg ((q + 1) * N) (.slice none 0 0) ∧ BK w0 w g w' := by
  unfold rowP
  have HRo := Aside0.mk (fun (W : World) => (by have := row23 W hf; rw [hN] at this; exact this : Calls Try.prog 23 #[.agg #[.int .i64 k, .int .i64 pgs, .int .i64 sz]] W fun e w' => e = .returned (.int .i64 (N : Nat)) ∧ Below W.heap.size W w'))
  have hxl : xs.length = nr := (Kd.R_reads' hR).1.symm
  have HP := Aside0.mk (fun (W : World) (s : Nat) (hWr : Wr W g k pgs sz seg s (.slice Ar nr cr)) (hRr : KB.R 5 W w0.heap.size (fun _ => True) (.slice Ar nr cr) xs) => row37 W g k pgs sz seg s (q + 1) nr cr N (.slice Ar nr cr) hf hN hWr Ar xs (by have h2 := (Kd.R_reads' hRr).2.2; rw [hxl] at h2; exact h2) hx hseg (by omega) hq h1)
  have hN9 : N ≤ 2097152 := by rw [← hN]; exact row_lt hf
  have hp2 := hf.p2
  have hM9 : (q + 1) * N ≤ 4096 * 2097152 := Nat.mul_le_mul (by omega) hN9
  have HSZ := Aside0.mk (show (q + 1) * N = q * N + N from Nat.succ_mul q N)
  rw [HSZ.out] at hM9 HP
  obtain ⟨x0, x1, x2, x3, x4, x5⟩ := hW.cells
  have HW := Aside0.mk hW
  have HRR := Aside0.mk hR
  have HB := Aside0.mk (BK.refl (g := g) hB)
  have hfr := hW.free 4
  generalize payL (padL xs N) k (roomN sz) = PL at *
  rw [HSZ.out]
  generalize q * N = qn at *
  have hnz : ((nr : Int) == 0) = false := beq_eq_false_iff_ne.mpr (by omega)
  have hw1 : wrap64 ((N : Int) - (nr : Int)) = (N : Int) - (nr : Int) := by unfold wrap64; omega
  have hw2 : wrap64 ((qn : Int) + (nr : Int) + ((N : Int) - (nr : Int))) = ((qn + N : Nat) : Int) := by unfold wrap64; omega
  clear x3 hf hN hW hR hB
  go_enter Try.func15, Try.ntmps15
  go_wp2_with fail
  refine start_ (n := 19) (S := fun w' => w'.cell? ⟨g, 0, none⟩ = some (.int .i64 (k : Nat)) ∧ w'.cell? ⟨g, 1, none⟩ = some (.int .i64 (pgs : Nat)) ∧ w'.cell? ⟨g, 2, none⟩ = some (.int .i64 (sz : Nat)) ∧ w'.cell? ⟨g, 4, none⟩ = some (.int .i64 (qn + nr : Nat)) ∧ w'.cell? ⟨g, 5, none⟩ = some (.slice Ar nr cr)) (ds := [18]) #[false, false, false, false, false, false, false, false, false, false, false, false, false, false, false, false, false, false, false] (by kernel_rfl) rfl rfl ⟨x0, x1, x2, x4, x5⟩ (fun hHeld => ?_)
  refine with_tabW pad15a.tab3 pad15a.bits3 (fun HT_ HW_ => ?_)
  refine pure_ (i := 0) (N := some 10) (v := ?_) (a' := ?_) #[true, false, false, false, false, false, false, false, false, false, false, false, false, false, false, false, false, false, false] rfl rfl (any_of HT_.out (by kernel_rfl)) (fun _ _ _ h => h) (Or.inl ⟨by rfl, ?_⟩) ?_ ?_
  rotate_left
  · intro w'
    go_simp
    with_reducible rfl
  rotate_left
  · simp only [Act.put, List.setIfInBounds_toArray, List.set_cons_zero, List.set_cons_succ, i64_w, i32_w]
    rfl
  refine pure_ (i := 1) (N := some 11) (v := ?_) (a' := ?_) #[true, true, false, false, false, false, false, false, false, false, false, false, false, false, false, false, false, false, false] rfl rfl (any_of HT_.out (by kernel_rfl)) (fun _ _ _ h => h) (Or.inl ⟨by rfl, ?_⟩) ?_ ?_
  rotate_left
  · intro w'
    go_simp
    with_reducible rfl
  rotate_left
  · simp only [Act.put, List.setIfInBounds_toArray, List.set_cons_zero, List.set_cons_succ, i64_w, i32_w]
    rfl
  refine pure_ (i := 2) (N := some 12) (v := ?_) (a' := ?_) #[true, true, true, false, false, false, false, false, false, false, false, false, false, false, false, false, false, false, false] rfl rfl (any_of HT_.out (by kernel_rfl)) (fun _ _ _ h => h) (Or.inl ⟨by rfl, ?_⟩) ?_ ?_
  rotate_left
  · intro w'
    go_simp
    with_reducible rfl
  rotate_left
  · simp only [Act.put, List.setIfInBounds_toArray, List.set_cons_zero, List.set_cons_succ, i64_w, i32_w]
    rfl
  refine pure_ (i := 4) (N := some 14) (v := ?_) (a' := ?_) #[true, true, true, false, true, false, false, false, false, false, false, false, false, false, false, false, false, false, false] rfl rfl (any_of HT_.out (by kernel_rfl)) (fun _ _ _ h => h) (Or.inl ⟨by rfl, ?_⟩) ?_ ?_
  rotate_left
  · intro w'
    go_simp
    with_reducible rfl
  rotate_left
  · simp only [Act.put, List.setIfInBounds_toArray, List.set_cons_zero, List.set_cons_succ, i64_w, i32_w]
    rfl
  refine pure_ (i := 5) (N := some 15) (v := ?_) (a' := ?_) #[true, true, true, false, true, true, false, false, false, false, false, false, false, false, false, false, false, false, false] rfl rfl (any_of HT_.out (by kernel_rfl)) (fun _ _ _ h => h) (Or.inl ⟨by rfl, ?_⟩) ?_ ?_
  rotate_left
  · intro w'
    go_simp
    with_reducible rfl
  rotate_left
  · simp only [Act.put, List.setIfInBounds_toArray, List.set_cons_zero, List.set_cons_succ, i64_w, i32_w]
    rfl
  refine pure_ (i := 6) (N := some 16) (v := ?_) (a' := ?_) #[true, true, true, false, true, true, true, false, false, false, false, false, false, false, false, false, false, false, false] rfl rfl (any_of HT_.out (by kernel_rfl)) (fun _ _ _ h => h) (Or.inl ⟨by rfl, ?_⟩) ?_ ?_
  rotate_left
  · intro w'
    go_simp
    with_reducible rfl
  rotate_left
  · simp only [Act.put, List.setIfInBounds_toArray, List.set_cons_zero, List.set_cons_succ, i64_w, i32_w]
    rfl
  refine pure_ (i := 9) (N := some 19) (v := ?_) (a' := ?_) #[true, true, true, false, true, true, true, false, false, true, false, false, false, false, false, false, false, false, false] rfl rfl (any_of HT_.out (by kernel_rfl)) (fun _ _ _ h => h) (Or.inl ⟨by rfl, ?_⟩) ?_ ?_
  rotate_left
  · intro w'
    go_simp
    with_reducible rfl
  rotate_left
  · simp only [Act.put, List.setIfInBounds_toArray, List.set_cons_zero, List.set_cons_succ, i64_w, i32_w]
    rfl
  refine pure_ (i := 10) (N := some 20) (v := ?_) (a' := ?_) #[true, true, true, false, true, true, true, false, false, true, true, false, false, false, false, false, false, false, false] rfl rfl (any_of HT_.out (by kernel_rfl)) (fun _ _ _ h => h) (Or.inl ⟨by rfl, ?_⟩) ?_ ?_
  rotate_left
  · intro w'
    go_simp
    with_reducible rfl
  rotate_left
  · simp only [Act.put, List.setIfInBounds_toArray, List.set_cons_zero, List.set_cons_succ, i64_w, i32_w]
    rfl
  refine pure_ (i := 11) (N := some 21) (v := ?_) (a' := ?_) #[true, true, true, false, true, true, true, false, false, true, true, true, false, false, false, false, false, false, false] rfl rfl (any_of HT_.out (by kernel_rfl)) (fun _ _ _ h => h) (Or.inl ⟨by rfl, ?_⟩) ?_ ?_
  rotate_left
  · intro w'
    go_simp
    with_reducible rfl
  rotate_left
  · simp only [Act.put, List.setIfInBounds_toArray, List.set_cons_zero, List.set_cons_succ, i64_w, i32_w]
    rfl
  refine take_ (i := 3) (N := some 13) (v := ?_) (a' := ?_) #[true, true, true, true, true, true, true, false, false, true, true, true, false, false, false, false, false, false, false] rfl rfl (take_ofW HT_.out HW_.out (by kernel_rfl)) (fun _ _ _ h => h) (Or.inl ⟨by rfl, ?_⟩) hHeld ?_ ?_
  rotate_left
  · rintro w' ⟨s0, s1, s2, s3, s4⟩
    go_simp
    with_reducible rfl
  rotate_left
  · simp only [Act.put, List.setIfInBounds_toArray, List.set_cons_zero, List.set_cons_succ, i64_w, i32_w]
    rfl
  refine take_ (i := 7) (N := some 17) (v := ?_) (a' := ?_) #[true, true, true, true, true, true, true, true, false, true, true, true, false, false, false, false, false, false, false] rfl rfl (take_ofW HT_.out HW_.out (by kernel_rfl)) (fun _ _ _ h => h) (Or.inl ⟨by rfl, ?_⟩) hHeld ?_ ?_
  rotate_left
  · rintro w' ⟨s0, s1, s2, s3, s4⟩
    go_simp
    with_reducible rfl
  rotate_left
  · simp only [Act.put, List.setIfInBounds_toArray, List.set_cons_zero, List.set_cons_succ, i64_w, i32_w]
    rfl
  refine take_ (i := 12) (N := some 22) (v := ?_) (a' := ?_) #[true, true, true, true, true, true, true, true, false, true, true, true, true, false, false, false, false, false, false] rfl rfl (take_ofW HT_.out HW_.out (by kernel_rfl)) (fun _ _ _ h => h) (Or.inl ⟨by rfl, ?_⟩) hHeld ?_ ?_
  rotate_left
  · rintro w' ⟨s0, s1, s2, s3, s4⟩
    go_simp
    with_reducible rfl
  rotate_left
  · simp only [Act.put, List.setIfInBounds_toArray, List.set_cons_zero, List.set_cons_succ, i64_w, i32_w]
    rfl
  refine pure_ (i := 13) (N := some 23) (v := ?_) (a' := ?_) #[true, true, true, true, true, true, true, true, false, true, true, true, true, true, false, false, false, false, false] rfl rfl (any_of HT_.out (by kernel_rfl)) (fun _ _ _ h => h) (Or.inl ⟨by rfl, ?_⟩) ?_ ?_
  rotate_left
  · intro w'
    go_simp
    with_reducible rfl
  rotate_left
  · simp only [Act.put, List.setIfInBounds_toArray, List.set_cons_zero, List.set_cons_succ, i64_w, i32_w]
    rfl
  refine one_ (i := 8) (N := some 18) #[true, true, true, true, true, true, true, true, true, true, true, true, true, true, false, false, false, false, false] rfl rfl (one_of HT_.out (by kernel_rfl)) (by decide) (fun K hK => ?_)
  refine goes_ Try.func23 (by kernel_rfl) rfl #[.agg #[.int .i64 (k : Nat), .int .i64 (pgs : Nat), .int .i64 (sz : Nat)]] (by rfl) rfl rfl (by simp only [List.map_toArray, List.map_cons, List.map_nil]; rfl) ?_
  refine Calls.mono (HRo.out _) ?_
  rintro e w2 ⟨rfl, hb⟩
  refine ⟨_, rfl, ?_⟩
  have hfr2 := (HW.out.below (below_then (below_drew (Below.refl w.heap.size w)) (below_drew (Below.refl w.heap.size w)).size hb)).free 4
  refine hK.out _ _ ⟨pw_cell_below hb hHeld.1, pw_cell_below hb hHeld.2.1, pw_cell_below hb hHeld.2.2.1, pw_cell_below hb hHeld.2.2.2.1, pw_cell_below hb hHeld.2.2.2.2⟩ (fun hHeld => ?_)
  clear hK K
  refine norm_ (a' := ?_) ?_ ?_
  rotate_left
  · show Act.put _ (some 18) _ = _
    simp only [Act.put, List.setIfInBounds_toArray, List.set_cons_zero, List.set_cons_succ, i64_w, i32_w]
    rfl
  refine pure_ (i := 14) (N := some 24) (v := ?_) (a' := ?_) #[true, true, true, true, true, true, true, true, true, true, true, true, true, true, true, false, false, false, false] rfl rfl (any_of HT_.out (by kernel_rfl)) (fun _ _ _ h => h) (Or.inl ⟨by rfl, ?_⟩) ?_ ?_
  rotate_left
  · intro w'
    go_simp
    with_reducible rfl
  rotate_left
  · simp only [Act.put, List.setIfInBounds_toArray, List.set_cons_zero, List.set_cons_succ, i64_w, i32_w]
    rfl
  refine pure_ (i := 15) (N := some 25) (v := ?_) (a' := ?_) #[true, true, true, true, true, true, true, true, true, true, true, true, true, true, true, true, false, false, false] rfl rfl (any_of HT_.out (by kernel_rfl)) (fun _ _ _ h => h) (Or.inl ⟨by rfl, ?_⟩) ?_ ?_
  rotate_left
  · intro w'
    go_simp
    with_reducible rfl
  rotate_left
  · simp only [Act.put, List.setIfInBounds_toArray, List.set_cons_zero, List.set_cons_succ, i64_w, i32_w]
    rfl
  refine pure_ (i := 16) (N := some 26) (v := ?_) (a' := ?_) #[true, true, true, true, true, true, true, true, true, true, true, true, true, true, true, true, true, false, false] rfl rfl (any_of HT_.out (by kernel_rfl)) (fun _ _ _ h => h) (Or.inl ⟨by rfl, ?_⟩) ?_ ?_
  rotate_left
  · intro w'
    go_simp
    with_reducible rfl
  rotate_left
  · simp only [Act.put, List.setIfInBounds_toArray, List.set_cons_zero, List.set_cons_succ, i64_w, i32_w]
    rfl
  refine pure_ (i := 17) (N := some 27) (v := ?_) (a' := ?_) #[true, true, true, true, true, true, true, true, true, true, true, true, true, true, true, true, true, true, false] rfl rfl (any_of HT_.out (by kernel_rfl)) (fun _ _ _ h => h) (Or.inl ⟨by rfl, ?_⟩) ?_ ?_
  rotate_left
  · intro w'
    go_simp
    with_reducible rfl
  rotate_left
  · simp only [Act.put, List.setIfInBounds_toArray, List.set_cons_zero, List.set_cons_succ, i64_w, i32_w]
    rfl
  refine last_ (i := 18) (N := none) #[true, true, true, true, true, true, true, true, true, true, true, true, true, true, true, true, true, true, true] rfl rfl (one_of HT_.out (by kernel_rfl)) (by decide) (fun K hK => ?_)
  refine skip_ (w1 := ?_) (by rfl) rfl ?_ ?_
  rotate_left
  · go_simp
    rfl
  refine hK.out _ _ ?_
  clear hK K
  refine done_ (done_of HT_.out (by kernel_rfl)) ?_
  have hd0 := below_drew (Below.refl w.heap.size w)
  have hb2 := below_then hd0 hd0.size hb
  have hW2 := HW.out.below hb2
  have hR2 := Kd.R_below HRR.out hb2
  have hB2 := HB.out.then hb2
  have hW4 := hW2.size (qn + N)
  have hR4 := hW2.keep hR2 4 (.int .i64 ((qn + N : Nat) : Int))
  have hB4 : BK w0 w g (w2.setCell ⟨g, 4, none⟩ (.int .i64 ((qn + N : Nat) : Int))) := hB2.set hg _ _
  rw [show ((qn : Int) + (N : Int)) = ((qn + N : Nat) : Int) by omega]
  generalize w2.setCell ⟨g, 4, none⟩ (.int .i64 ((qn + N : Nat) : Int)) = w4 at hW4 hR4 hB4 ⊢
  have HW4 := Aside0.mk hW4
  have HR4 := Aside0.mk hR4
  have HB4 := Aside0.mk hB4
  obtain ⟨_, _, _, _, z4, z5⟩ := hW4.cells
  clear hd0 hb2 hW2 hR2 hB2 hW4 hR4 hB4 hHeld hb x0 x1 x2 x4 x5 hw1 hw2 hnz hfr hfr2 HW HRR HB
  go_wp2_with fail
  refine start_ (n := 11) (S := fun w' => w'.cell? ⟨g, 4, none⟩ = some (.int .i64 (qn + N : Nat)) ∧ w'.cell? ⟨g, 5, none⟩ = some (.slice Ar nr cr)) (ds := []) #[false, false, false, false, false, false, false, false, false, false, false] (by kernel_rfl) rfl rfl ⟨z4, z5⟩ (fun hHeld => ?_)
  refine with_tabW pad15b.tab4 pad15b.bits4 (fun HT_ HW_ => ?_)
  refine pure_ (i := 0) (N := some 28) (v := ?_) (a' := ?_) #[true, false, false, false, false, false, false, false, false, false, false] rfl rfl (any_of HT_.out (by kernel_rfl)) (fun _ _ _ h => h) (Or.inl ⟨by rfl, ?_⟩) ?_ ?_
  rotate_left
  · intro w'
    go_simp
    with_reducible rfl
  rotate_left
  · simp only [Act.put, List.setIfInBounds_toArray, List.set_cons_zero, List.set_cons_succ, i64_w, i32_w]
    rfl
  refine pure_ (i := 1) (N := some 29) (v := ?_) (a' := ?_) #[true, true, false, false, false, false, false, false, false, false, false] rfl rfl (any_of HT_.out (by kernel_rfl)) (fun _ _ _ h => h) (Or.inl ⟨by rfl, ?_⟩) ?_ ?_
  rotate_left
  · intro w'
    go_simp
    with_reducible rfl
  rotate_left
  · simp only [Act.put, List.setIfInBounds_toArray, List.set_cons_zero, List.set_cons_succ, i64_w, i32_w]
    rfl
  refine pure_ (i := 2) (N := some 30) (v := ?_) (a' := ?_) #[true, true, true, false, false, false, false, false, false, false, false] rfl rfl (any_of HT_.out (by kernel_rfl)) (fun _ _ _ h => h) (Or.inl ⟨by rfl, ?_⟩) ?_ ?_
  rotate_left
  · intro w'
    go_simp
    with_reducible rfl
  rotate_left
  · simp only [Act.put, List.setIfInBounds_toArray, List.set_cons_zero, List.set_cons_succ, i64_w, i32_w]
    rfl
  refine pure_ (i := 3) (N := some 31) (v := ?_) (a' := ?_) #[true, true, true, true, false, false, false, false, false, false, false] rfl rfl (any_of HT_.out (by kernel_rfl)) (fun _ _ _ h => h) (Or.inl ⟨by rfl, ?_⟩) ?_ ?_
  rotate_left
  · intro w'
    go_simp
    with_reducible rfl
  rotate_left
  · simp only [Act.put, List.setIfInBounds_toArray, List.set_cons_zero, List.set_cons_succ, i64_w, i32_w]
    rfl
  refine pure_ (i := 5) (N := some 33) (v := ?_) (a' := ?_) #[true, true, true, true, false, true, false, false, false, false, false] rfl rfl (any_of HT_.out (by kernel_rfl)) (fun _ _ _ h => h) (Or.inl ⟨by rfl, ?_⟩) ?_ ?_
  rotate_left
  · intro w'
    go_simp
    with_reducible rfl
  rotate_left
  · simp only [Act.put, List.setIfInBounds_toArray, List.set_cons_zero, List.set_cons_succ, i64_w, i32_w]
    rfl
  refine pure_ (i := 6) (N := some 34) (v := ?_) (a' := ?_) #[true, true, true, true, false, true, true, false, false, false, false] rfl rfl (any_of HT_.out (by kernel_rfl)) (fun _ _ _ h => h) (Or.inl ⟨by rfl, ?_⟩) ?_ ?_
  rotate_left
  · intro w'
    go_simp
    with_reducible rfl
  rotate_left
  · simp only [Act.put, List.setIfInBounds_toArray, List.set_cons_zero, List.set_cons_succ, i64_w, i32_w]
    rfl
  refine pure_ (i := 7) (N := some 35) (v := ?_) (a' := ?_) #[true, true, true, true, false, true, true, true, false, false, false] rfl rfl (any_of HT_.out (by kernel_rfl)) (fun _ _ _ h => h) (Or.inl ⟨by rfl, ?_⟩) ?_ ?_
  rotate_left
  · intro w'
    go_simp
    with_reducible rfl
  rotate_left
  · simp only [Act.put, List.setIfInBounds_toArray, List.set_cons_zero, List.set_cons_succ, i64_w, i32_w]
    rfl
  refine take_ (i := 4) (N := some 32) (v := ?_) (a' := ?_) #[true, true, true, true, true, true, true, true, false, false, false] rfl rfl (take_ofW HT_.out HW_.out (by kernel_rfl)) (fun _ _ _ h => h) (Or.inl ⟨by rfl, ?_⟩) hHeld ?_ ?_
  rotate_left
  · rintro w' ⟨s0, s1⟩
    go_simp
    with_reducible rfl
  rotate_left
  · simp only [Act.put, List.setIfInBounds_toArray, List.set_cons_zero, List.set_cons_succ, i64_w, i32_w]
    rfl
  refine take_ (i := 8) (N := some 36) (v := ?_) (a' := ?_) #[true, true, true, true, true, true, true, true, true, false, false] rfl rfl (take_ofW HT_.out HW_.out (by kernel_rfl)) (fun _ _ _ h => h) (Or.inl ⟨by rfl, ?_⟩) hHeld ?_ ?_
  rotate_left
  · rintro w' ⟨s0, s1⟩
    go_simp
    with_reducible rfl
  rotate_left
  · simp only [Act.put, List.setIfInBounds_toArray, List.set_cons_zero, List.set_cons_succ, i64_w, i32_w]
    rfl
  refine one_ (i := 9) (N := some 37) #[true, true, true, true, true, true, true, true, true, true, false] rfl rfl (one_of HT_.out (by kernel_rfl)) (by decide) (fun K hK => ?_)
  refine goes_ Try.func37 (by kernel_rfl) rfl #[.pointer (some ⟨g, 0, none⟩), .slice Ar nr cr, .int .i64 (qn + N : Nat)] (by rfl) rfl rfl (by simp only [List.map_toArray, List.map_cons, List.map_nil]; rfl) ?_
  refine Calls.mono (HP.out _ _ (HW4.out.below (below_drew (Below.refl _ _))) (Kd.R_drew HR4.out)) ?_
  rintro e w5 ⟨v5, hs5, rfl, hH5, hO5, hb5⟩
  refine ⟨_, rfl, ?_⟩
  refine hK.out _ _ ⟨pw_cell_below hb5 hHeld.1, pw_cell_below hb5 hHeld.2⟩ (fun hHeld => ?_)
  clear hK K
  refine norm_ (a' := ?_) ?_ ?_
  rotate_left
  · show Act.put _ (some 37) _ = _
    simp only [Act.put, List.setIfInBounds_toArray, List.set_cons_zero, List.set_cons_succ, i64_w, i32_w]
    rfl
  refine pure_ (i := 10) (N := some 3) (v := ?_) (a' := ?_) #[true, true, true, true, true, true, true, true, true, true, true] rfl rfl (any_of HT_.out (by kernel_rfl)) (fun _ _ _ h => h) (Or.inl ⟨by rfl, ?_⟩) ?_ ?_
  rotate_left
  · intro w'
    go_simp
    with_reducible rfl
  rotate_left
  · simp only [Act.put, List.setIfInBounds_toArray, List.set_cons_zero, List.set_cons_succ, i64_w, i32_w]
    rfl
  refine done_ (done_of HT_.out (by kernel_rfl)) ?_
  obtain ⟨A5, c5, ev5⟩ := Kd.R_slice hH5
  subst ev5
  have hd4 := below_drew (Below.refl w4.heap.size w4)
  have hb45 := below_then hd4 hd4.size hb5
  have hW5 := HW4.out.below hb45
  have hB5 := HB4.out.then hb45
  have y5 := hW5.cells.2.2.2.2.2
  have f5 := hW5.free 5
  have HW5 := Aside0.mk (hW5.rest (.slice none 0 0))
  have HB5 := Aside0.mk (hB5.set hg 5 (.slice none 0 0))
  have HH5 := Aside0.mk (Kd.R_set (Kd.R_lower hH5 (show w.heap.size ≤ w4.heap.size from HB4.out.size)) hW5 (by simp [KH, Kd.scalar]) 5 (.slice none 0 0))
  have HO5 := Aside0.mk ((hO5.lower (show w.heap.size ≤ w4.heap.size from HB4.out.size)).move (fun _ _ h => Kd.R_set h hW5 (by simp [KB, Kd.int, Kd.scalar]) 5 (.slice none 0 0)))
  clear hd4 hb45 hW5 hB5 hH5 hO5 hb5 hHeld z4 z5 HW4 HR4 HB4 HP
  go_wp2_with fail
  go_ret
  have hal := below_alloc (Below.refl _ (w5.setCell ⟨g, 5, none⟩ (.slice none 0 0))) (.cells #[.slice A5 hs5.length c5] 51)
  exact ⟨_, 1, _, rfl, Nat.le_refl _, KH_one (base := w.heap.size) (b := w5.heap.size) (e := 51) (by have h := heap_alloc_last (w5.setCell ⟨g, 5, none⟩ (.slice none 0 0)) (.cells #[.slice A5 hs5.length c5] 51); simpa using h) (by have := HB5.out.size; simpa using this), OwnP.one (Kd.R_below HH5.out hal) (HO5.out.below hal), HW5.out.below hal, HB5.out.then hal⟩
set_option maxHeartbeats 8000000 in
set_option maxRecDepth 100000 in
theorem size19 (w : World) (g k pgs sz seg s : Nat) (rest : Value) (hW : Wr w g k pgs sz seg s rest) :
    Calls Try.prog 19 #[.pointer (some ⟨g, 0, none⟩)] w fun e w' => e = .returned (.int .i64 (s : Nat)) ∧ Below w.heap.size w w' := by
  obtain ⟨x0, x1, x2, x3, x4, x5⟩ := hW.cells
  clear hW x0 x1 x2 x3 x5
  go_enter Try.func19, Try.ntmps19
  go_wp2_with fail
  go_ret
  exact ⟨rfl, Below.refl _ _⟩
end Go.Proofs.Ytjnicooboiijgaa.Sg
end

section
/-
  (*seg.Writer).Add.
-/
set_option linter.unusedVariables false
set_option linter.unusedSimpArgs false
namespace Go.Proofs.Ytjnicooboiijgaa.Sg
open Go.RowKit Go.Proofs.YtjnicooboiijgaaW.PrintWords Go.Proofs.YtjnicooboiijgaaW.PrintLast Go.Proofs.YtjnicooboiijgaaW.PrintMore Go.Proofs.Ytjnicooboiijgaa.PSg Go.Proofs.Ytjnicooboiijgaa.Gf Go.Proofs.Ytjnicooboiijgaa.Rs
def add17a.T5 : Bool × List (List Nat × List Nat) := (true, [([], []), ([0], [0]), ([1], [1]), ([2], [2]), ([], []), ([4], [4]), ([5], [5]), ([6], [6]), ([7], [7]), ([3, 8, 0, 1, 2, 3], [3]), ([8, 9, 0, 1, 2, 3, 4, 5, 6, 7, 8, 9], [8])])
def add17a.B5 : List Nat := [0, 1, 3, 7, 0, 16, 48, 112, 240, 511, 1023]
theorem add17a.tab5 : rtab .any (opsOf Try.f17 5) = add17a.T5 := by kernel_rfl
theorem add17a.bits5 : waitsOk add17a.T5.2 add17a.B5 = true := by kernel_rfl
set_option maxHeartbeats 16000000 in
set_option maxRecDepth 100000 in
theorem add17_ok (w0 w : World) (g k pgs sz seg s q nr N nb cr cb : Nat) (Ar Ab : Option Addr) (hf : Fits k pgs sz) (hN : k * roomN sz = N) (hg : w0.heap.size ≤ g) (hB : Below w0.heap.size w0 w) (xs bl : List Int) (hs : s = q * N + nr) (hW : Wr w g k pgs sz seg s (.slice Ar nr cr)) (hR : KB.R 5 w w0.heap.size (fun _ => True) (.slice Ar nr cr) xs) (hx : bytes xs = true) (hA : KB.C w Ab nb bl) (hcb : nb ≤ cb) (hbl : bytes bl = true) (hseg : seg < 18446744073709551616) (hnr : nr < N) (h0 : 0 < nb) (h9 : nb ≤ 20000) (hl : s + nb ≤ N * (pgs - 1)) :
    Calls Try.prog 17 #[.pointer (some ⟨g, 0, none⟩), .slice Ab nb cb] w fun e w' => ∃ v A2 n2 c2 hds, e = .returned (.tuple #[.int .i64 s, v, .int .i64 0]) ∧ KH.R 51 w' w.heap.size (fun _ => True) v hds ∧ OwnP w' w.heap.size hds (rowsP sz seg q k N ((nr + nb) / N) (xs ++ bl)) ∧ Wr w' g k pgs sz seg (s + nb) (.slice A2 n2 c2) ∧ KB.R 5 w' w.heap.size (fun _ => True) (.slice A2 n2 c2) ((xs ++ bl).drop ((nr + nb) / N * N)) ∧ BK w0 w g w' := by
  have hxl : xs.length = nr := (Kd.R_reads' hR).1.symm
  have hbll : bl.length = nb := Kd.C_len hA
  have hsum : ([xs, bl].map List.length).sum = nr + nb := by simp [hxl, hbll]
  have hNp : 0 < N := by omega
  have hN9 : N ≤ 2097152 := by rw [← hN]; exact row_lt hf
  have HSUM := Aside0.mk (show ([xs, bl].map List.length).sum ≤ 3000000 by rw [hsum]; omega)
  clear hsum
  have hp2 := hf.p2
  have hM9 : N * (pgs - 1) ≤ 2097152 * 4095 := Nat.mul_le_mul hN9 (by omega)
  have HL := Aside0.mk (fun (W : World) (rest : Value) (hWr : Wr W g k pgs sz seg s rest) => (by have := left20 W g k pgs sz seg s rest hf hWr (by rw [hN]; omega); rw [hN] at this; exact this : Calls Try.prog 20 #[.pointer (some ⟨g, 0, none⟩)] W fun e w' => e = .returned (.int .i64 (N * (pgs - 1) - s : Nat)) ∧ Below W.heap.size W w'))
  have HRo := Aside0.mk (fun (W : World) => (by have := row23 W hf; rw [hN] at this; exact this : Calls Try.prog 23 #[.agg #[.int .i64 k, .int .i64 pgs, .int .i64 sz]] W fun e w' => e = .returned (.int .i64 (N : Nat)) ∧ Below W.heap.size W w'))
  generalize hZ : xs ++ bl = zs
  have hzl : zs.length = nr + nb := by rw [← hZ, List.length_append, hxl, hbll]
  have hzb : bytes zs = true := by rw [← hZ]; unfold bytes at *; rw [List.all_append, hx, hbl]; rfl
  have HP := Aside0.mk (fun (W : World) (i : Nat) (A : Option Addr) (cs : List Int) (rest : Value) (hWr : Wr W g k pgs sz seg s rest) (hC : KB.C W A N cs) (hc : cs = chunk zs N i) (hi : (i + 1) * N ≤ nr + nb) => row37 W g k pgs sz seg s (q + 1 + i) N N N rest hf hN hWr A cs hC (by rw [hc]; exact chunk_bytes hzb N i) hseg (by omega) (by
    have h1 : (q + 1 + i) * N ≤ N * (pgs - 1) := by rw [show q + 1 + i = q + (i + 1) by omega, Nat.add_mul]; omega
    rw [Nat.mul_comm N] at h1
    have := Nat.le_of_mul_le_mul_right h1 hNp
    have := hf.p1
    omega) (Nat.le_refl _))
  have HF := Aside0.mk hf
  have HW := Aside0.mk hW
  have HRR := Aside0.mk hR
  have HB := Aside0.mk (BK.refl (g := g) hB)
  have HA := Aside0.mk hA
  have HZ := Aside0.mk hZ
  have HZL := Aside0.mk hzl
  have HSQ := Aside0.mk hs
  have HX := Aside0.mk (show ((xs.length = nr) ∧ bl.length = nb) from ⟨hxl, hbll⟩)
  have hcr := (Kd.R_reads' hR).2.1
  have c1 : ((nb : Int) == 0) = false := beq_eq_false_iff_ne.mpr (by omega)
  have c2 : decide (((N * (pgs - 1) - s : Nat) : Int) < (nb : Int)) = false := decide_eq_false (by omega)
  have c3 : ¬ N * (pgs - 1) - s < nb := by omega
  obtain ⟨qn, hqn⟩ : ∃ qn, q * N = qn := ⟨_, rfl⟩
  rw [hqn] at hs
  have HC5 := Aside0.mk (show wrap64 ((s : Int) - (nr : Int)) = (qn : Int) by unfold wrap64; omega)
  have HQN := Aside0.mk hqn
  have HC6 := Aside0.mk (show wrap64 ((s : Int) + (nb : Int)) = ((s + nb : Nat) : Int) by unfold wrap64; omega)
  generalize N * (pgs - 1) = M at *
  generalize hD : M - s = D at *
  clear hf hN hW hR hB hA hx hbl hZ hzl hzb hs hxl hbll hD hseg hqn
  go_enter Try.func17, Try.ntmps17
  go_wp2_with (go_at_call 20; refine Calls.mono (HL.out _ _ HW.out) ?_; rintro e w1 ⟨rfl, hb⟩; replace HW := Aside0.mk (HW.out.below hb); replace HRR := Aside0.mk (Kd.R_below HRR.out hb); replace HB := Aside0.mk (HB.out.then hb); replace HA := Aside0.mk (Kd.C_below HA.out hb); clear hb)
  obtain ⟨x0, x1, x2, x3, x4, x5⟩ := HW.out.cells
  refine start_ (n := 11) (S := fun w' => w'.cell? ⟨g, 0, none⟩ = some (.int .i64 (k : Nat)) ∧ w'.cell? ⟨g, 1, none⟩ = some (.int .i64 (pgs : Nat)) ∧ w'.cell? ⟨g, 2, none⟩ = some (.int .i64 (sz : Nat)) ∧ w'.cell? ⟨g, 4, none⟩ = some (.int .i64 (s : Nat))) (ds := []) #[false, false, false, false, false, false, false, false, false, false, false] (by kernel_rfl) rfl rfl ⟨x0, x1, x2, x4⟩ (fun hHeld => ?_)
  refine with_tabW add17a.tab5 add17a.bits5 (fun HT_ HW_ => ?_)
  refine pure_ (i := 0) (N := some 22) (v := ?_) (a' := ?_) #[true, false, false, false, false, false, false, false, false, false, false] rfl rfl (any_of HT_.out (by kernel_rfl)) (fun _ _ _ h => h) (Or.inl ⟨by rfl, ?_⟩) ?_ ?_
  rotate_left
  · intro w'
    go_simp
    with_reducible rfl
  rotate_left
  · simp only [Act.put, List.setIfInBounds_toArray, List.set_cons_zero, List.set_cons_succ, i64_w, i32_w]
    rfl
  refine pure_ (i := 1) (N := some 23) (v := ?_) (a' := ?_) #[true, true, false, false, false, false, false, false, false, false, false] rfl rfl (any_of HT_.out (by kernel_rfl)) (fun _ _ _ h => h) (Or.inl ⟨by rfl, ?_⟩) ?_ ?_
  rotate_left
  · intro w'
    go_simp
    with_reducible rfl
  rotate_left
  · simp only [Act.put, List.setIfInBounds_toArray, List.set_cons_zero, List.set_cons_succ, i64_w, i32_w]
    rfl
  refine pure_ (i := 2) (N := some 24) (v := ?_) (a' := ?_) #[true, true, true, false, false, false, false, false, false, false, false] rfl rfl (any_of HT_.out (by kernel_rfl)) (fun _ _ _ h => h) (Or.inl ⟨by rfl, ?_⟩) ?_ ?_
  rotate_left
  · intro w'
    go_simp
    with_reducible rfl
  rotate_left
  · simp only [Act.put, List.setIfInBounds_toArray, List.set_cons_zero, List.set_cons_succ, i64_w, i32_w]
    rfl
  refine pure_ (i := 4) (N := some 26) (v := ?_) (a' := ?_) #[true, true, true, false, true, false, false, false, false, false, false] rfl rfl (any_of HT_.out (by kernel_rfl)) (fun _ _ _ h => h) (Or.inl ⟨by rfl, ?_⟩) ?_ ?_
  rotate_left
  · intro w'
    go_simp
    with_reducible rfl
  rotate_left
  · simp only [Act.put, List.setIfInBounds_toArray, List.set_cons_zero, List.set_cons_succ, i64_w, i32_w]
    rfl
  refine pure_ (i := 5) (N := some 27) (v := ?_) (a' := ?_) #[true, true, true, false, true, true, false, false, false, false, false] rfl rfl (any_of HT_.out (by kernel_rfl)) (fun _ _ _ h => h) (Or.inl ⟨by rfl, ?_⟩) ?_ ?_
  rotate_left
  · intro w'
    go_simp
    with_reducible rfl
  rotate_left
  · simp only [Act.put, List.setIfInBounds_toArray, List.set_cons_zero, List.set_cons_succ, i64_w, i32_w]
    rfl
  refine pure_ (i := 6) (N := some 28) (v := ?_) (a' := ?_) #[true, true, true, false, true, true, true, false, false, false, false] rfl rfl (any_of HT_.out (by kernel_rfl)) (fun _ _ _ h => h) (Or.inl ⟨by rfl, ?_⟩) ?_ ?_
  rotate_left
  · intro w'
    go_simp
    with_reducible rfl
  rotate_left
  · simp only [Act.put, List.setIfInBounds_toArray, List.set_cons_zero, List.set_cons_succ, i64_w, i32_w]
    rfl
  refine take_ (i := 3) (N := some 25) (v := ?_) (a' := ?_) #[true, true, true, true, true, true, true, false, false, false, false] rfl rfl (take_ofW HT_.out HW_.out (by kernel_rfl)) (fun _ _ _ h => h) (Or.inl ⟨by rfl, ?_⟩) hHeld ?_ ?_
  rotate_left
  · rintro w' ⟨s0, s1, s2, s3⟩
    go_simp
    with_reducible rfl
  rotate_left
  · simp only [Act.put, List.setIfInBounds_toArray, List.set_cons_zero, List.set_cons_succ, i64_w, i32_w]
    rfl
  refine take_ (i := 7) (N := some 29) (v := ?_) (a' := ?_) #[true, true, true, true, true, true, true, true, false, false, false] rfl rfl (take_ofW HT_.out HW_.out (by kernel_rfl)) (fun _ _ _ h => h) (Or.inl ⟨by rfl, ?_⟩) hHeld ?_ ?_
  rotate_left
  · rintro w' ⟨s0, s1, s2, s3⟩
    go_simp
    with_reducible rfl
  rotate_left
  · simp only [Act.put, List.setIfInBounds_toArray, List.set_cons_zero, List.set_cons_succ, i64_w, i32_w]
    rfl
  refine one_ (i := 8) (N := some 30) #[true, true, true, true, true, true, true, true, true, false, false] rfl rfl (one_of HT_.out (by kernel_rfl)) (by decide) (fun K hK => ?_)
  refine goes_ Try.func23 (by kernel_rfl) rfl #[.agg #[.int .i64 (k : Nat), .int .i64 (pgs : Nat), .int .i64 (sz : Nat)]] (by rfl) rfl rfl (by simp only [List.map_toArray, List.map_cons, List.map_nil]; rfl) ?_
  refine Calls.mono (HRo.out _) ?_
  rintro e w2 ⟨rfl, hb⟩
  refine ⟨_, rfl, ?_⟩
  refine hK.out _ _ ⟨pw_cell_below hb hHeld.1, pw_cell_below hb hHeld.2.1, pw_cell_below hb hHeld.2.2.1, pw_cell_below hb hHeld.2.2.2⟩ (fun hHeld => ?_)
  clear hK K
  refine norm_ (a' := ?_) ?_ ?_
  rotate_left
  · show Act.put _ (some 30) _ = _
    simp only [Act.put, List.setIfInBounds_toArray, List.set_cons_zero, List.set_cons_succ, i64_w, i32_w]
    rfl
  refine pure_ (i := 9) (N := some 7) (v := ?_) (a' := ?_) #[true, true, true, true, true, true, true, true, true, true, false] rfl rfl (any_of HT_.out (by kernel_rfl)) (fun _ _ _ h => h) (Or.inl ⟨by rfl, ?_⟩) ?_ ?_
  rotate_left
  · intro w'
    go_simp
    with_reducible rfl
  rotate_left
  · simp only [Act.put, List.setIfInBounds_toArray, List.set_cons_zero, List.set_cons_succ, i64_w, i32_w]
    rfl
  refine pure_ (i := 10) (N := some 8) (v := ?_) (a' := ?_) #[true, true, true, true, true, true, true, true, true, true, true] rfl rfl (any_of HT_.out (by kernel_rfl)) (fun _ _ _ h => h) (Or.inl ⟨by rfl, ?_⟩) ?_ ?_
  rotate_left
  · intro w'
    go_simp
    with_reducible rfl
  rotate_left
  · simp only [Act.put, List.setIfInBounds_toArray, List.set_cons_zero, List.set_cons_succ, i64_w, i32_w]
    rfl
  refine done_ (done_of HT_.out (by kernel_rfl)) ?_
  have hd0 := below_drew (Below.refl w1.heap.size w1)
  have hb2 := below_then hd0 hd0.size hb
  have HW2 := Aside0.mk (HW.out.below hb2)
  have HR2 := Aside0.mk (Kd.R_below HRR.out hb2)
  have HB2 := Aside0.mk (HB.out.then hb2)
  have HA2 := Aside0.mk (Kd.C_below HA.out hb2)
  clear hd0 hb2 hb hHeld x0 x1 x2 x3 x4 x5 HW HRR HB HA HL HRo
  obtain ⟨_, _, _, _, _, z5⟩ := HW2.out.cells
  have HKH := Aside0.mk (KH_pair' (heap_alloc_last w2 (.cells #[.slice Ar nr cr, .slice Ab nb cb] 37)))
  have hba := below_alloc (Below.refl w2.heap.size w2) (.cells #[.slice Ar nr cr, .slice Ab nb cb] 37)
  have hRw : Rs.Rows (w2.alloc (.cells #[.slice Ar nr cr, .slice Ab nb cb] 37)) [(Ar, nr, cr), (Ab, nb, cb)] [xs, bl] := by
    refine ⟨rfl, fun i x hx => ?_⟩
    match i, hx with
    | 0, hx =>
      obtain rfl := Option.some.inj hx
      have h3 := (Kd.R_reads' HR2.out).2.2
      rw [HX.out.1] at h3
      exact ⟨HX.out.1.symm, hcr, Kd.C_below h3 hba⟩
    | 1, hx =>
      obtain rfl := Option.some.inj hx
      exact ⟨HX.out.2.symm, hcb, Kd.C_below HA2.out hba⟩
  have HCC := Aside0.mk (concat39 _ _ 2 2 [xs, bl] (KR_of_KH HKH.out hRw) (by omega) HSUM.out)
  rw [show [xs, bl].flatten = zs by rw [← HZ.out]; simp] at HCC
  have HWA := Aside0.mk (HW2.out.below hba)
  have HBA := Aside0.mk (HB2.out.then hba)
  clear hba hRw
  go_wp2_with (go_at_call 39; refine Calls.mono (HCC.out) ?_; rintro e w3 ⟨v3, rfl, hR3, hb3⟩; have HW3 := Aside0.mk (HWA.out.below hb3); have HB3 := Aside0.mk (HBA.out.then hb3); have HR3 := Aside0.mk (Kd.R_reads hR3); have hy5 := HW3.out.cells.2.2.2.2.2; clear hb3 hR3)
  obtain ⟨A3, c3', ev3, hle3, hC3⟩ := HR3.out
  rw [HZL.out] at ev3 hle3 hC3
  subst ev3
  have HC3 := Aside0.mk hC3
  rw [show ((s : Int) - (nr : Int)) = ((q * N : Nat) : Int) by have := HSQ.out; have := HQN.out; rw [HQN.out] at *; omega]
  clear HR3 hC3 HKH HCC HWA HBA HW2 HR2 HB2 HA2 z5 c1 c2 c3
  obtain ⟨L, hL⟩ : ∃ L, nr + nb = L := ⟨_, rfl⟩
  rw [hL] at HC3 hle3 HP HZL ⊢
  go_loopw [9, 10, 11] (fun av ev ov W => ∃ (i n c : Nat) (A : Option Addr) (hds : List Hd), av = .slice A n c ∧ n + i * N = L ∧ n ≤ c ∧ ev = .int .i64 ((q + i) * N : Nat) ∧ Aside0 (KB.C w3 A n (zs.drop (i * N))) ∧ Aside0 (KH.R 51 W w3.heap.size (fun _ => True) ov hds) ∧ Aside0 (OwnP W w3.heap.size hds (rowsP sz seg q k N i zs)) ∧ Aside0 (Below w3.heap.size w3 W)) (fun av _ _ _ => match av with | .slice _ n _ => n | _ => 0)
  case atStart => exact ⟨0, L, c3', A3, [], rfl, by omega, hle3, by simp, ⟨by simpa using HC3.out⟩, ⟨Kd.R_nil _ _ _ _ _⟩, ⟨by simpa [rowsP] using OwnP.nil _ _⟩, ⟨Below.refl _ _⟩⟩
  case round =>
    obtain ⟨i, n, c, A, hds, rfl, hn, hnc, rfl, HC, HH, HO, HBl⟩ := hrel
    by_cases hNn : N ≤ n
    · have h1 : (i + 1) * N ≤ L := by rw [Nat.succ_mul]; omega
      have HQ1 := Aside0.mk (show (q + (i + 1)) * N = (q + i) * N + N by rw [← Nat.add_assoc]; exact Nat.succ_mul _ _)
      have HI1 := Aside0.mk (show (i + 1) * N = i * N + N from Nat.succ_mul _ _)
      have he9 : (q + i) * N + N ≤ M := by
        have : (q + (i + 1)) * N = q * N + (i + 1) * N := Nat.add_mul _ _ _
        rw [← HQ1.out, this]
        have := HQN.out
        have := HSQ.out
        omega
      have hdl : (zs.drop (i * N)).length = n := by rw [List.length_drop, HZL.out]; omega
      have hCl := HC.out
      rw [← hdl] at hCl
      have hC1 := Kd.C_take (m := N) hCl (by rw [hdl]; exact hNn)
      rw [List.length_take, hdl, Nat.min_eq_left hNn] at hC1
      have hC2 := Kd.C_drop (c := c) (m := N) hCl (by rw [hdl]; exact hNn) (by rw [hdl]; exact hnc)
      rw [List.length_drop, hdl, List.drop_drop, ← HI1.out] at hC2
      obtain ⟨ad, rfl, _⟩ := HC.out.2.2 (by omega)
      have HC2 := Aside0.mk hC2
      have HPi := Aside0.mk (fun (W : World) (hb : Below w3.heap.size w3 W) => HP.out W i (some ad) _ _ (HW3.out.below hb) (Kd.C_below hC1 hb) rfl h1)
      have HSC := Aside0.mk (show rowsP sz seg q k N (i + 1) zs = rowsP sz seg q k N i zs ++ [pagesL sz seg (q + 1 + i) (payL (padL (List.take N (List.drop (i * N) zs)) N) k (roomN sz))] from rowsP_succ)
      have HLN := Aside0.mk (show hds.length = i by rw [HO.out.len, rowsP_len])
      have HII := Aside0.mk (show i ≤ L by have := Nat.le_mul_of_pos_right i hNp; omega)
      rw [show q + 1 + i = q + i + 1 by omega, show (q + i + 1) * N = (q + i) * N + N from Nat.succ_mul _ _] at HPi
      rw [show q + 1 + i = q + i + 1 by omega] at HSC
      generalize (q + i) * N = en at *
      generalize i * N = o at *
      have hNd : decide ((N : Int) ≤ (n : Int)) = true := decide_eq_true (by omega)
      have hNi : (N : Int) ≤ (n : Int) := by omega
      have hNc : (N : Int) ≤ (c : Int) := by omega
      have hNz : (0 : Int) ≤ (N : Int) := by omega
      clear hdl hCl hC1 hC2 h1
      go_wp2_with (first
        | (go_at_call 37; refine Calls.mono (HPi.out _ HBl.out) ?_; rintro e w5 ⟨v5, hs5, rfl, hH5, hO5, hb5⟩
           obtain ⟨A5, c5, ev5⟩ := Kd.R_slice hH5
           subst ev5
           have HH5 := Aside0.mk (Kd.R_lower hH5 HBl.out.size)
           have HO5 := Aside0.mk (hO5.lower HBl.out.size)
           have HH6 := Aside0.mk (Kd.R_below HH.out hb5)
           have HO6 := Aside0.mk (HO.out.below hb5)
           have HB6 := Aside0.mk (below_then HBl.out HBl.out.size hb5)
           clear hH5 hO5 hb5 HH HO HBl)
        | ((with_reducible refine gate_builtin (b := .append) (xs := #[.tmp 52, .tmp 60]) rfl ?_); refine Kd.R_append KH (w0 := w3) w3.heap.size rfl (.tmp 52) (.tmp 60) 43 51 (.slice none 0 0) 24 rfl Try.underlying43 info51 rfl (by decide) (by omega) u11 hds (A5, hs5.length, c5) [.slice A5 hs5.length c5] (fun _ => True) (fun _ => False) rfl rfl rfl (fun _ hk => hk.elim) (fun _ _ => trivial) HH6.out HB6.out HB6.out.size (by rw [HLN.out]; have := HII.out; omega) ?_
           intro v7 w7 ho hb hg hat
           have HO7 := Aside0.mk ((HO6.out.snoc rfl HH5.out HO5.out).over HH6.out hg)
           have HH7 := Aside0.mk ho
           have HB7 := Aside0.mk hb
           clear ho hb hg hat HH6 HO6 HB6))
      all_goals go_roundw
      case measure => omega
      case rel =>
        have hcn : c = N := by omega
        refine ⟨_, .int .i64 ((en : Int) + (N : Int)), v7, ⟨i + 1, n - N, 0, _, rfl, by rw [HI1.out]; omega, by omega, ?_, ?_, _, HH7, ?_⟩, rfl, rfl, rfl⟩
        · have := HQ1.out
          have h2 : ((q : Int) + ((i + 1 : Nat) : Int)) * (N : Int) = (((q + (i + 1)) * N : Nat) : Int) := by push_cast; rfl
          rw [h2, HQ1.out]
          push_cast
          rfl
        · rw [HI1.out]
          have h3 := HC2.out
          rw [if_pos hcn] at h3
          rw [← HI1.out]
          exact ⟨h3⟩
        · rw [HSC.out]
          exact HO7
      case measure => omega
      case rel =>
        have hcn : ¬ c = N := by omega
        refine ⟨_, .int .i64 ((en : Int) + (N : Int)), v7, ⟨i + 1, n - N, c - N, _, rfl, by rw [HI1.out]; omega, by omega, ?_, ?_, _, HH7, ?_⟩, rfl, rfl, rfl⟩
        · have := HQ1.out
          have h2 : ((q : Int) + ((i + 1 : Nat) : Int)) * (N : Int) = (((q + (i + 1)) * N : Nat) : Int) := by push_cast; rfl
          rw [h2, HQ1.out]
          push_cast
          rfl
        · rw [HI1.out]
          have h3 := HC2.out
          rw [if_neg hcn] at h3
          rw [← HI1.out]
          exact ⟨by simpa [KB, Kd.int, Kd.scalar] using h3⟩
        · rw [HSC.out]
          exact HO7
    · have hm : L / N = i := by
        rw [← hn]
        rw [Nat.add_mul_div_right _ _ hNp, Nat.div_eq_of_lt (by omega), Nat.zero_add]
      have HM := Aside0.mk hm
      have hdl : (zs.drop (i * N)).length = n := by rw [List.length_drop, HZL.out]; omega
      have HDL := Aside0.mk hdl
      have HCl := Aside0.mk (clone40 wr A c (zs.drop (i * N)) (by rw [hdl]; exact Kd.C_below HC.out HBl.out) (by rw [hdl]; exact hnc) (by rw [hdl]; omega))
      rw [hdl] at HCl
      have hNd : decide ((N : Int) ≤ (n : Int)) = false := decide_eq_false (by omega)
      have HWr := Aside0.mk (HW3.out.below HBl.out)
      have HB0 := Aside0.mk (HB3.out.then HBl.out)
      generalize (q + i) * N = en at *
      generalize hO : i * N = o at *
      have HO0 := Aside0.mk hO
      clear hO
      clear hdl hn hm
      go_wp2_with (first
        | (go_at_call 40; refine Calls.mono HCl.out ?_; rintro e w5 ⟨v5, rfl, hR5, hb5⟩
           obtain ⟨A5, c5, ev5⟩ := Kd.R_slice hR5
           rw [HDL.out] at ev5
           subst ev5
           have HW5 := Aside0.mk (HWr.out.below hb5)
           have HR5 := Aside0.mk (Kd.R_lower hR5 HB0.out.size)
           have HH5 := Aside0.mk (Kd.R_below HH.out hb5)
           have HO5 := Aside0.mk (HO.out.below hb5)
           have HB5 := Aside0.mk (HB0.out.then hb5)
           have f5 := HW5.out.free 5
           have y4 := HW5.out.cells.2.2.2.2.1
           have y5 := HW5.out.cells.2.2.2.2.2
           have y45 := (HW5.out.rest (.slice A5 n c5)).cells.2.2.2.2.1
           have f4 := HW5.out.free 4
           have f45 := (HW5.out.rest (.slice A5 n c5)).free 4
           clear hR5 hb5 HWr HH HO HCl))
      go_ret3
      rw [show ((s : Int) + (nb : Int)) = ((s + nb : Nat) : Int) by omega]
      have hr5 := HW5.out.rest (.slice A5 n c5)
      have hk5 := HW5.out.keep HR5.out 5 (.slice A5 n c5)
      have hB := HB3.out.size
      refine ⟨u11, A5, n, c5, hds, rfl, ?_, ?_, hr5.size _, ?_, (HB5.out.set hg _ _).set hg _ _⟩
      · exact Kd.R_set (Kd.R_set (Kd.R_lower HH5.out hB) HW5.out (by simp [KH, Kd.scalar]) 5 _) hr5 (by simp [KH, Kd.scalar]) 4 _
      · rw [hL, HM.out]
        exact ((HO5.out.lower hB).set HW5.out 5 _).set hr5 4 _
      · rw [hL, HM.out, HO0.out]
        exact hr5.keep hk5 4 _
end Go.Proofs.Ytjnicooboiijgaa.Sg
end

section
/-
  flintlaw9.known.
-/
set_option linter.unusedVariables false
set_option linter.unusedSimpArgs false
namespace Go.Proofs.Ytjnicooboiijgaa.Sg
open Go.RowKit Go.Proofs.YtjnicooboiijgaaW.PrintWords Go.Proofs.YtjnicooboiijgaaW.PrintLast Go.Proofs.YtjnicooboiijgaaW.PrintMore Go.Proofs.Ytjnicooboiijgaa.PSg Go.Proofs.Ytjnicooboiijgaa.Gf Go.Proofs.Ytjnicooboiijgaa.Rs
theorem fits0 : Fits 2 3 32 := ⟨by omega, by omega, by omega, by omega, by omega, by omega⟩
theorem where0 (w : World) : Calls Try.prog 27 #[.agg #[.int .i64 2, .int .i64 3, .int .i64 32], .int .i64 30] w fun e w' => e = .returned (.tuple #[.int .i64 2, .int .i64 0, .int .i64 4, .int .i64 0]) ∧ Below w.heap.size w w' :=
  seg_Where.calls 1 2 3 32 30 2 0 4 0 w (by decide +kernel)
theorem blkc {W : World} {b : Nat} {cs : Array Value} {t : Nat} (h : W.heap[b]? = some (.cells cs t (0, 0))) (j : Nat) {v : Value} (hj : cs[j]? = some v) : W.cell? ⟨b, j, none⟩ = some v := (cell_of_row W b j _ t (0, 0) h).trans hj
theorem head_cell {W : World} {b : Nat} {x : Hd} {l : List Hd} {n : Nat} (h : KH.C W (some ⟨b, 0, none⟩) n (x :: l)) : W.cell? ⟨b, 0, none⟩ = some (.slice x.1 x.2.1 x.2.2) := by
  obtain ⟨h1, h2, h3⟩ := h
  obtain ⟨ad', e, h4⟩ := h3 (by rw [← h1]; simp)
  obtain rfl := Option.some.inj e
  obtain ⟨c, _, hk, h5⟩ := h4 0 x rfl
  have hk' : c = [.slice x.1 x.2.1 x.2.2] := hk
  have := h5 0 (.slice x.1 x.2.1 x.2.2) (by rw [hk']; rfl)
  rw [Addr.add_mid] at this
  simpa using this
theorem keepW {α : Type} {d : Kd α} {e base g k pgs sz seg s : Nat} {W W' : World} {v rest : Value} {xs : List α} (h : d.R e W base (fun _ => True) v xs) (hE : ∀ q, q ∈ e :: d.E → q ≠ 75) (hW : Wr W g k pgs sz seg s rest) (hk : KeepBut W W' g none) : d.R e W' base (fun _ => True) v xs :=
  Kd.R_mono (Kd.R_keep (Kd.R_bound h) hk fun j hj ej => by
    subst ej
    obtain ⟨_, _, _, q, hq, cells, hc⟩ := hj
    unfold Wr at hW
    rw [hW] at hc
    obtain ⟨_, rfl⟩ : _ ∧ (75 : Nat) = q := by simpa using hc
    exact hE _ hq rfl) (fun _ _ => trivial)
theorem OwnP.keepW {W W' : World} {base g k pgs sz seg s : Nat} {hds : List Hd} {P : List (List (List Int))} {rest : Value} (h : OwnP W base hds P) (hW : Wr W g k pgs sz seg s rest) (hk : KeepBut W W' g none) : OwnP W' base hds P :=
  ⟨h.len, fun i x hx => by
    obtain ⟨hs, h1, h2, h3⟩ := h.rows i x hx
    exact ⟨hs, h1, Sg.keepW h2 (by simp [KH, Kd.scalar]) hW hk, h3.move fun _ _ h => Sg.keepW h (by simp [KB, Kd.int, Kd.scalar]) hW hk⟩⟩
theorem add0 (w W : World) (g : Nat) (A : Option Addr) (hg : w.heap.size ≤ g) (hB : Below w.heap.size w W) (hW : Wr W g 2 3 32 7 0 (.slice none 0 0)) (hA : KB.C W A 27 (rowL 27 fun _ => 0)) :
    Calls Try.prog 17 #[.pointer (some ⟨g, 0, none⟩), .slice A 27 27] W fun e w' => ∃ b A2 c1 c2 A3 c3, e = .returned (.tuple #[.int .i64 0, .slice (some ⟨b, 0, none⟩) 1 c1, .int .i64 0]) ∧ KH.R 51 w' W.heap.size (fun _ => True) (.slice (some ⟨b, 0, none⟩) 1 c1) [(A3, 4, c3)] ∧ Wr w' g 2 3 32 7 27 (.slice A2 1 c2) ∧ KB.R 5 w' W.heap.size (fun _ => True) (.slice A2 1 c2) [0] ∧ BK w W g w' := by
  refine Calls.mono (add17_ok w W g 2 3 32 7 0 0 0 26 27 0 27 none A fits0 rfl hg hB [] (rowL 27 fun _ => 0) rfl hW (Kd.R_nil _ _ _ _ _) rfl hA (Nat.le_refl _) (by decide) (by decide) (by decide) (by decide) (by decide) (by decide)) ?_
  rintro e w' ⟨v, A2, n2, c2, hds, rfl, hH, hO, hW', hR, hb⟩
  obtain ⟨A1, c1, rfl⟩ := Kd.R_slice hH
  have hl : hds.length = 1 := by rw [hO.len, rowsP_len]
  have hn : n2 = 1 := (Kd.R_reads' hR).1
  subst hn
  rcases hds with _ | ⟨⟨A3, n3, c3⟩, _ | ⟨y, hds⟩⟩ <;> simp at hl
  obtain ⟨hs, h1, h2, h3⟩ := hO.rows 0 (A3, n3, c3) rfl
  have h4 : hs.length = 4 := h3.len
  obtain rfl : n3 = 4 := h1.trans h4
  obtain ⟨inner, _, ⟨ev, _⟩ | ⟨b, cap, cur, ev, _⟩⟩ := Kd.R_own hH
  · cases ev
  obtain ⟨rfl, _⟩ : A1 = some ⟨b, 0, none⟩ ∧ _ := by simpa using ev
  exact ⟨b, A2, c1, c2, A3, c3, rfl, hH, hW', hR, hb⟩
set_option maxHeartbeats 16000000 in
set_option maxRecDepth 100000 in
theorem known8 (w : World) : Calls Try.prog 8 #[] w fun e w' => e = .returned (.bool true) ∧ Below w.heap.size w w' := by
  have HH := Aside0.mk (heap_alloc_last w (.cells #[.int .i64 2, .int .i64 3, .int .i64 32] 23))
  have HB := Aside0.mk (below_alloc (Below.refl w.heap.size w) (.cells #[.int .i64 2, .int .i64 3, .int .i64 32] 23))
  have hmk : ∀ W : World, (Instr.makeSlice 37 (.int .i64 27) (.int .i64 27)).run Try.prog W = .ok (.slice (some ⟨W.heap.size, 0, none⟩) 27 27) (W.alloc (.cells (byC 27 fun _ => 0) 5)) := fun W => mkN 27 (by omega) W
  have HC0 := Aside0.mk (fun (W : World) => (by
    have h := (Kd.R_reads' (rowAt_R (base := 0) (ok := fun _ => True) (show RowAt (W.alloc (.cells (byC 27 fun _ => 0) 5)) W.heap.size 27 (fun _ => 0) from heap_alloc_last W _) (by omega) (by omega) trivial)).2.2
    rw [rowL_length] at h
    exact h : KB.C (W.alloc (.cells (byC 27 fun _ => 0) 5)) (some ⟨W.heap.size, 0, none⟩) 27 (rowL 27 fun _ => 0)))
  go_enter Try.func8, Try.ntmps8
  have HN := Aside0.mk (fun (W : World) => (new11_ok W 2 3 32 7 fits0 : Calls Try.prog 11 #[.agg #[.int .i64 2, .int .i64 3, .int .i64 32], .int .u64 7] W fun e w' => ∃ g, e = .returned (.tuple #[.pointer (some ⟨g, 0, none⟩), .int .i64 0]) ∧ W.heap.size ≤ g ∧ Wr w' g 2 3 32 7 0 (.slice none 0 0) ∧ Below W.heap.size W w'))
  have HR := Aside0.mk (fun (W : World) => (row23 W fits0 : Calls Try.prog 23 #[.agg #[.int .i64 2, .int .i64 3, .int .i64 32]] W fun e w' => e = .returned (.int .i64 26) ∧ Below W.heap.size W w'))
  have HM := Aside0.mk (fun (W : World) => (room26 W fits0 : Calls Try.prog 26 #[.agg #[.int .i64 2, .int .i64 3, .int .i64 32]] W fun e w' => e = .returned (.int .i64 52) ∧ Below W.heap.size W w'))
  go_wp2_with (first
    | (go_at_call 27; refine Calls.mono (where0 _) ?_; rintro e w1 ⟨rfl, hb⟩; replace HH := Aside0.mk ((hb.block _ (heap_lt HH.out)).trans HH.out); replace HB := Aside0.mk (below_then HB.out HB.out.size hb); have y0 := blkc HH.out 0 rfl; have y1 := blkc HH.out 1 rfl; have y2 := blkc HH.out 2 rfl; clear hb)
    | (go_at_call 11; refine Calls.mono (HN.out _) ?_; rintro e w2 ⟨g, rfl, hg, hW, hb⟩; replace HH := Aside0.mk ((hb.block _ (heap_lt HH.out)).trans HH.out); have HG := Aside0.mk (show w.heap.size ≤ g by have := HB.out.size; omega); have HN := Aside0.mk (show w.heap.size ≠ g by have := heap_lt HH.out; have := hb.size; have := HB.out.size; intro e; subst e; have h1 := HH.out; unfold Wr at hW; rw [hW] at h1; cases h1); replace HB := Aside0.mk (below_then HB.out HB.out.size hb); have HW := Aside0.mk hW; clear hb hW hg)
    | (go_at_call 17; refine Calls.mono (add0 w _ g _ HG.out (below_alloc HB.out _) (HW.out.below (below_alloc (Below.refl _ _) _)) (HC0.out _)) ?_; rintro e w3 ⟨b1, A2, c1, c2, A3, c3, rfl, hH, hW3, hR3, hb3⟩
       have HH3 := Aside0.mk (hb3.keep.blk (((below_alloc (Below.refl _ _) _).block _ (heap_lt HH.out)).trans HH.out) HN.out (by simp))
       have HL3 := Aside0.mk hH
       have HW3 := Aside0.mk hW3
       have HR3 := Aside0.mk (Kd.R_lower hR3 (show w.heap.size ≤ _ from (below_alloc HB.out _).size))
       have HB3 := Aside0.mk hb3.below
       clear hH hW3 hR3 hb3 HH HW HB)
    | (go_at_call 15; refine Calls.mono (pad15_yes w _ g 2 3 32 7 1 26 1 _ _ fits0 rfl HG.out HB3.out [0] HW3.out HR3.out rfl (by decide) (by decide) (by decide) (by decide)) ?_; rintro e w4 ⟨A4, m4, hds4, rfl, _, _, _, hW4, hb4⟩
       have HH4 := Aside0.mk (hb4.keep.blk HH3.out HN.out (by simp))
       have HL4 := Aside0.mk (Sg.keepW HL3.out (by simp [KH, Kd.scalar]) HW3.out hb4.keep)
       have HW4 := Aside0.mk (hW4 : Wr w4 g 2 3 32 7 52 (.slice none 0 0))
       have HB4 := Aside0.mk hb4.below
       have y0 := blkc HH4.out 0 rfl; have y1 := blkc HH4.out 1 rfl; have y2 := blkc HH4.out 2 rfl
       clear hW4 hb4 HH3 HL3 HW3 HR3 HB3)
    | (go_at_call 23; refine Calls.mono (HR.out _) ?_; rintro e w5 ⟨rfl, hb⟩
       have HH5 := Aside0.mk ((hb.block _ (heap_lt HH4.out)).trans HH4.out); have HL5 := Aside0.mk (Kd.R_below HL4.out hb); have HW5 := Aside0.mk (HW4.out.below hb); have HB5 := Aside0.mk (below_then HB4.out HB4.out.size hb)
       have y0 := blkc HH5.out 0 rfl; have y1 := blkc HH5.out 1 rfl; have y2 := blkc HH5.out 2 rfl
       clear hb HH4 HL4 HW4 HB4)
    | (go_at_call 26; refine Calls.mono (HM.out _) ?_; rintro e w6 ⟨rfl, hb⟩
       have HL6 := Aside0.mk (Kd.R_below HL5.out hb); have HW6 := Aside0.mk (HW5.out.below hb); have HB6 := Aside0.mk (below_then HB5.out HB5.out.size hb)
       have z := head_cell (Kd.R_reads' HL6.out).2.2
       clear hb HH5 HL5 HW5 HB5)
    | (go_at_call 19; refine Calls.mono (size19 _ g 2 3 32 7 52 _ HW6.out) ?_; rintro e w7 ⟨rfl, hb⟩
       have HB7 := Aside0.mk (below_then HB6.out HB6.out.size hb)
       clear hb HW6 HB6))
  go_ret
  exact ⟨rfl, HB7.out⟩
end Go.Proofs.Ytjnicooboiijgaa.Sg
end
