/-
  slices.Repeat of one row.
-/
import Derived.Test.YtjnicooboiijgaaSgNu
import Derived.Laws.CopyOwn
set_option linter.unusedVariables false
set_option linter.unusedSimpArgs false
namespace Go.Proofs.Ytjnicooboiijgaa.Sg
open Go.RowKit Go.Proofs.YtjnicooboiijgaaW.PrintWords Go.Proofs.YtjnicooboiijgaaW.PrintLast Go.Proofs.YtjnicooboiijgaaW.PrintMore Go.Proofs.Ytjnicooboiijgaa.PSg Go.Proofs.Ytjnicooboiijgaa.Gf Go.Proofs.Ytjnicooboiijgaa.Rs
theorem mul62 (w : World) (m : Nat) (hm : m < 40) : Calls Try.prog 62 #[.int .u64 1, .int .u64 m] w fun e w' => e = .returned (.tuple #[.int .u64 0, .int .u64 m]) ∧ Below w.heap.size w w' :=
  (bits_Mul.calls 1 m 0 m w (by
    have : ∀ q : Fin 40, bits_Mul.f 1 (q.val : Int) = some (0, (q.val : Int)) := by decide +kernel
    exact this ⟨m, hm⟩)).mono fun e w' ⟨h1, h2⟩ => ⟨h1, h2.below⟩
theorem mkH (n : Nat) (hn : n ≤ 3000000) (w : World) :
    (Instr.makeSlice 51 (.int .i64 (n : Int)) (.int .i64 (n : Int))).run Try.prog w = .ok (.slice (some ⟨w.heap.size, 0, none⟩) n n) (w.alloc (.cells (List.replicate n (Value.slice none 0 0)).toArray 37)) := by
  obtain ⟨i, hi, h'⟩ := Option.map_eq_some_iff.1 Go.Proofs.Ytjnicooboiijgaa.PSg.info37
  simp only [Prod.mk.injEq] at h'
  obtain ⟨h0, h1, h2⟩ := h'
  have := run_make_rowN (P := Try.prog) 51 37 i (.slice none 0 0) Try.underlying51 hi h0 .i64 .i64 n n (Nat.le_refl _) (by rw [h2]; omega) (by omega) w
  rw [this, h1, Nat.mul_one]
  show Result.ok _ (w.alloc (.cells (madeCells #[_] n) 37)) = _
  have e : ((List.range n).map fun _ => Value.slice none 0 0) = List.replicate n (Value.slice none 0 0) := by rw [List.map_const', List.length_range]
  rw [madeCells_one, e]
theorem size37 : (Try.prog.info? 37).map (·.size) = some 1 := by kernel_rfl
theorem splice_fill {α : Type} {i m : Nat} {x z : α} (h : i ≤ m) : splice (List.replicate i x ++ List.replicate (m - i) z) i (List.replicate (min i (m - i)) x) = List.replicate (i + min i (m - i)) x ++ List.replicate (m - (i + min i (m - i))) z := by
  unfold splice
  rw [List.take_left' (List.length_replicate), List.drop_append, List.length_replicate]
  rw [List.drop_of_length_le (by rw [List.length_replicate]; omega), List.nil_append, List.drop_replicate, ← List.append_assoc, List.replicate_append_replicate, List.length_replicate]
  congr 2
  omega
def rep9.T9 : Bool × List (List Nat × List Nat) := (true, [([], []), ([], []), ([], []), ([1, 2], [1, 2]), ([], []), ([], []), ([4, 5], [4, 5]), ([3, 6], [3, 6]), ([0, 7], [0, 7]), ([8, 7, 0, 1, 2, 3, 4, 5, 6, 7, 8], [0, 2, 5, 8])])
def rep9.B9 : List Nat := [0, 0, 0, 6, 0, 0, 48, 126, 255, 511]
theorem rep9.tab9 : rtab .any (opsOf Try.f46 9) = rep9.T9 := by kernel_rfl
theorem rep9.bits9 : waitsOk rep9.T9.2 rep9.B9 = true := by kernel_rfl
set_option maxHeartbeats 8000000 in
set_option maxRecDepth 100000 in
theorem repeat46 (w : World) (b m : Nat) (hv : Value) (h1 : hv.oneCell' = true) (hm : 1 ≤ m) (hm2 : m < 40) (hb : w.heap[b]? = some (.cells #[hv] 37 (0, 0))) :
    Calls Try.prog 46 #[.slice (some ⟨b, 0, none⟩) 1 1, .int .i64 m] w fun e w' => ∃ g, e = .returned (.slice (some ⟨g, 0, none⟩) m m) ∧ w.heap.size ≤ g ∧ w'.heap[g]? = some (.cells (List.replicate m hv).toArray 37 (0, 0)) ∧ Below w.heap.size w w' := by
  have HM := Aside0.mk (fun (W : World) => mul62 W m hm2)
  obtain ⟨Z0, hZ0⟩ : ∃ Z0 : List Value, List.replicate m (Value.slice none 0 0) = Z0 := ⟨_, rfl⟩
  have hmk : ∀ W : World, (Instr.makeSlice 51 (.int .i64 (m : Int)) (.int .i64 (m : Int))).run Try.prog W = .ok (.slice (some ⟨W.heap.size, 0, none⟩) m m) (W.alloc (.cells Z0.toArray 37)) := fun W => by rw [← hZ0]; exact mkH m (by omega) W
  have HB := Aside0.mk (Below.refl w.heap.size w)
  have HH := Aside0.mk hb
  have HZL := Aside0.mk (show Z0.length = m by rw [← hZ0, List.length_replicate])
  have HZS := Aside0.mk (show splice Z0 0 [hv] = List.replicate 1 hv ++ List.replicate (m - 1) (Value.slice none 0 0) by
    rw [← hZ0]
    unfold splice
    rw [List.take_zero, List.nil_append, List.drop_replicate]
    simp)
  have c1 : decide ((m : Int) < 0) = false := decide_eq_false (by omega)
  have c2 : decide (9223372036854775807 < (m : Int)) = false := decide_eq_false (by omega)
  have H1 := Aside0.mk h1
  have HCB := Aside0.mk (show ∀ (j : Nat) (u : Value), [hv][j]? = some u → ∀ W : World, W.heap[b]? = some (.cells #[hv] 37 (0, 0)) → W.cell? ((⟨b, 0, none⟩ : Addr).add j) = some u from fun j u hj W hW => by
    match j, hj with
    | 0, hj =>
      obtain rfl := Option.some.inj hj
      rw [Addr.add_mid, cell_of_row _ b _ _ 37 (0, 0) hW]
      rfl)
  clear hb hZ0 h1
  go_enter Try.func46, Try.ntmps46
  go_wp2_with (first
    | (go_at_call 62; refine Calls.mono (HM.out _) ?_; rintro e w1 ⟨rfl, hb⟩; have HH1 := Aside0.mk ((hb.block _ (heap_lt HH.out)).trans HH.out); have HB1 := Aside0.mk hb; clear hb)
    | ((with_reducible refine gate_builtin (b := .copy) (xs := #[.tmp 31, .tmp 32]) rfl ?_)
       go_loud (refine wpList_copy_splice rfl (.tmp 31) (.tmp 32) 51 51 rfl 37 Try.underlying51 size37 (some ⟨w1.heap.size, 0, none⟩) (some ⟨b, 0, none⟩) m m 1 1 rfl rfl w1.heap.size 0 Z0 37 (heap_alloc_last _ _) [hv] (by show 1 = min 1 m; omega) (fun _ => ⟨rfl, _, rfl, fun j u hj => HCB.out j u hj _ (((below_alloc (Below.refl w1.heap.size w1) _).block _ (heap_lt HH1.out)).trans HH1.out)⟩) (by rw [HZL.out]; show 0 + 1 ≤ m; omega) (fun u hu => by rw [List.mem_singleton] at hu; subst hu; exact H1.out) w.heap.size w (below_alloc HB1.out _) HB1.out.size ?_)
       intro w5 hg5 hb5
       have HG5 := Aside0.mk (show w5.heap[w1.heap.size]? = some (.cells (List.replicate 1 hv ++ List.replicate (m - 1) (Value.slice none 0 0)).toArray 37 (0, 0)) by rw [← HZS.out]; exact hg5.out)
       have HB5 := Aside0.mk hb5
       clear hg5 hb5))
  obtain ⟨g, hg⟩ : ∃ g, w1.heap.size = g := ⟨_, rfl⟩
  rw [hg] at HG5 ⊢
  have HGW := Aside0.mk (show w.heap.size ≤ g by rw [← hg]; exact HB1.out.size)
  clear hg HB1 HH1 HH HB HM hmk HZL HZS c1 c2
  go_loopw [8] (fun nv W => ∃ i : Nat, 1 ≤ i ∧ i ≤ m ∧ nv = .int .i64 (i : Nat) ∧ Aside0 (W.heap[g]? = some (.cells (List.replicate i hv ++ List.replicate (m - i) (Value.slice none 0 0)).toArray 37 (0, 0))) ∧ Aside0 (Below w.heap.size w W)) (fun nv _ => m - (intOf nv).toNat)
  case atStart => exact ⟨1, Nat.le_refl _, hm, by simp, HG5, HB5⟩
  case round =>
    clear HG5 HB5
    obtain ⟨i, hi1, hi2, rfl, HG, HB⟩ := hrel
    by_cases him : i < m
    · have t1 : decide ((i : Int) < (m : Int)) = true := decide_eq_true (by omega)
      have t2 : decide (i < m) = true := decide_eq_true him
      obtain ⟨X, hX⟩ : ∃ X : List Value, List.replicate (min i (m - i)) hv = X := ⟨_, rfl⟩
      obtain ⟨q, hq⟩ : ∃ q, min i (m - i) = q := ⟨_, rfl⟩
      have hXl : X.length = q := by rw [← hX, List.length_replicate, hq]
      have hq0 : 0 < q := by omega
      have hqm : i + q ≤ m := by omega
      have HSP := Aside0.mk (show splice (List.replicate i hv ++ List.replicate (m - i) (Value.slice none 0 0)) i X = List.replicate (i + q) hv ++ List.replicate (m - (i + q)) (Value.slice none 0 0) by
        rw [← hX, ← hq]; exact splice_fill hi2)
      have q1 : (0 : Int) ≤ (i : Int) := by omega
      have q2 : (i : Int) ≤ (m : Int) := by omega
      have q3 : ¬ m = i := by omega
      have q4 : ¬ i = m := by omega
      have HXM := Aside0.mk (fun u (hu : u ∈ X) => by rw [← hX] at hu; exact List.eq_of_mem_replicate hu)
      have HCE := Aside0.mk (show ∀ (j : Nat) (u : Value), X[j]? = some u → ∀ W : World, W.heap[g]? = some (.cells (List.replicate i hv ++ List.replicate (m - i) (Value.slice none 0 0)).toArray 37 (0, 0)) → W.cell? ((⟨g, 0, none⟩ : Addr).add j) = some u from fun j u hj W hW => by
        have hjl : j < X.length := (List.getElem?_eq_some_iff.1 hj).1
        have hu : u = hv := HXM.out u (List.mem_of_getElem? hj)
        rw [Addr.add_mid, cell_of_row _ g _ _ 37 (0, 0) hW, hu]
        rw [hXl] at hjl
        rw [List.getElem?_toArray, List.getElem?_append_left (by rw [List.length_replicate]; omega), List.getElem?_replicate]
        simp
        omega)
      have HQM := Aside0.mk (show Nat.min i (m - i) = q from hq)
      clear hX hq
      have HXL := Aside0.mk hXl
      have H1X := Aside0.mk (show ∀ u ∈ X, u.oneCell' = true from fun u hu => by rw [HXM.out u hu]; exact H1.out)
      have HFI := Aside0.mk (show i + X.length ≤ (List.replicate i hv ++ List.replicate (m - i) (Value.slice none 0 0)).length by rw [hXl, List.length_append, List.length_replicate, List.length_replicate]; omega)
      clear hXl
      go_upto_region 9 with fail
      refine start_ (n := 10) (S := fun w' => True) (ds := []) #[false, false, false, false, false, false, false, false, false, false] (by kernel_rfl) rfl rfl trivial (fun hHeld => ?_)
      refine with_tabW rep9.tab9 rep9.bits9 (fun HT_ HW_ => ?_)
      refine pure_ (i := 0) (N := some 38) (v := ?_) (a' := ?_) #[true, false, false, false, false, false, false, false, false, false] rfl rfl (any_of HT_.out (by kernel_rfl)) (fun _ _ _ h => h) (Or.inl ⟨by rfl, ?_⟩) ?_ ?_
      rotate_left
      · intro w'
        go_simp
        with_reducible rfl
      rotate_left
      · simp only [Act.put, List.setIfInBounds_toArray, List.set_cons_zero, List.set_cons_succ, i64_w, i32_w]
        rfl
      refine pure_ (i := 1) (N := some 39) (v := ?_) (a' := ?_) #[true, true, false, false, false, false, false, false, false, false] rfl rfl (any_of HT_.out (by kernel_rfl)) (fun _ _ _ h => h) (Or.inl ⟨by rfl, ?_⟩) ?_ ?_
      rotate_left
      · intro w'
        go_simp
        with_reducible rfl
      rotate_left
      · simp only [Act.put, List.setIfInBounds_toArray, List.set_cons_zero, List.set_cons_succ, i64_w, i32_w]
        rfl
      refine pure_ (i := 2) (N := some 40) (v := ?_) (a' := ?_) #[true, true, true, false, false, false, false, false, false, false] rfl rfl (any_of HT_.out (by kernel_rfl)) (fun _ _ _ h => h) (Or.inl ⟨by rfl, ?_⟩) ?_ ?_
      rotate_left
      · intro w'
        go_simp
        with_reducible rfl
      rotate_left
      · simp only [Act.put, List.setIfInBounds_toArray, List.set_cons_zero, List.set_cons_succ, i64_w, i32_w]
        rfl
      refine pure_ (i := 3) (N := some 41) (v := ?_) (a' := ?_) #[true, true, true, true, false, false, false, false, false, false] rfl rfl (any_of HT_.out (by kernel_rfl)) (fun _ _ _ h => h) (Or.inl ⟨by rfl, ?_⟩) ?_ ?_
      rotate_left
      · intro w'
        go_simp
        with_reducible rfl
      rotate_left
      · simp only [Act.put, List.setIfInBounds_toArray, List.set_cons_zero, List.set_cons_succ, i64_w, i32_w]
        rfl
      refine pure_ (i := 4) (N := some 42) (v := ?_) (a' := ?_) #[true, true, true, true, true, false, false, false, false, false] rfl rfl (any_of HT_.out (by kernel_rfl)) (fun _ _ _ h => h) (Or.inl ⟨by rfl, ?_⟩) ?_ ?_
      rotate_left
      · intro w'
        go_simp
        with_reducible rfl
      rotate_left
      · simp only [Act.put, List.setIfInBounds_toArray, List.set_cons_zero, List.set_cons_succ, i64_w, i32_w]
        rfl
      refine pure_ (i := 5) (N := some 43) (v := ?_) (a' := ?_) #[true, true, true, true, true, true, false, false, false, false] rfl rfl (any_of HT_.out (by kernel_rfl)) (fun _ _ _ h => h) (Or.inl ⟨by rfl, ?_⟩) ?_ ?_
      rotate_left
      · intro w'
        go_simp
        with_reducible rfl
      rotate_left
      · simp only [Act.put, List.setIfInBounds_toArray, List.set_cons_zero, List.set_cons_succ, i64_w, i32_w]
        rfl
      refine pure_ (i := 6) (N := some 44) (v := ?_) (a' := ?_) #[true, true, true, true, true, true, true, false, false, false] rfl rfl (any_of HT_.out (by kernel_rfl)) (fun _ _ _ h => h) (Or.inl ⟨by rfl, ?_⟩) ?_ ?_
      rotate_left
      · intro w'
        go_simp
        with_reducible rfl
      rotate_left
      · simp only [Act.put, List.setIfInBounds_toArray, List.set_cons_zero, List.set_cons_succ, i64_w, i32_w]
        rfl
      refine one_ (i := 7) (N := some 45) #[true, true, true, true, true, true, true, true, false, false] rfl rfl (one_of HT_.out (by kernel_rfl)) (by decide) (fun K hK => ?_)
      refine step_copy_splice rfl (.tmp 41) (.tmp 44) 51 51 rfl 37 Try.underlying51 size37 (some ⟨g, i, none⟩) (some ⟨g, 0, none⟩) (m - i) (m - i) i m (by rfl) (by rfl) g i _ 37 HG.out X (by rw [HXL.out]; exact HQM.out.symm) (fun _ => ⟨rfl, _, rfl, fun j u hj => HCE.out j u hj _ HG.out⟩) HFI.out H1X.out w.heap.size w (below_drew HB.out) HGW.out ?_
      intro w5 hg5 hb5
      refine hK.out _ _ trivial (fun hHeld => ?_)
      clear hK K
      refine norm_ (a' := ?_) ?_ ?_
      rotate_left
      · show Act.put _ (some 45) _ = _
        simp only [Act.put, List.setIfInBounds_toArray, List.set_cons_zero, List.set_cons_succ, i64_w, i32_w]
        rfl
      refine pure_ (i := 8) (N := some 46) (v := ?_) (a' := ?_) #[true, true, true, true, true, true, true, true, true, false] rfl rfl (any_of HT_.out (by kernel_rfl)) (fun _ _ _ h => h) (Or.inl ⟨by rfl, ?_⟩) ?_ ?_
      rotate_left
      · intro w'
        go_simp
        with_reducible rfl
      rotate_left
      · simp only [Act.put, List.setIfInBounds_toArray, List.set_cons_zero, List.set_cons_succ, i64_w, i32_w]
        rfl
      refine pure_ (i := 9) (N := some 8) (v := ?_) (a' := ?_) #[true, true, true, true, true, true, true, true, true, true] rfl rfl (any_of HT_.out (by kernel_rfl)) (fun _ _ _ h => h) (Or.inl ⟨by rfl, ?_⟩) ?_ ?_
      rotate_left
      · intro w'
        go_simp
        with_reducible rfl
      rotate_left
      · simp only [Act.put, List.setIfInBounds_toArray, List.set_cons_zero, List.set_cons_succ, i64_w, i32_w]
        rfl
      refine done_ (done_of HT_.out (by kernel_rfl)) ?_
      have HG5 := Aside0.mk (show w5.heap[g]? = some (.cells (List.replicate (i + q) hv ++ List.replicate (m - (i + q)) (Value.slice none 0 0)).toArray 37 (0, 0)) from by rw [← HSP.out]; exact hg5.out)
      have hw : wrap64 ((i : Int) + (X.length : Int)) = ((i + q : Nat) : Int) := by rw [HXL.out]; unfold wrap64; omega
      rw [hw]
      clear hg5 hw HT_ HW_
      go_wp2_with fail
      go_roundw
      case measure => simp [intOf]; omega
      case rel => exact ⟨i + q, by omega, hqm, by simp, HG5, ⟨hb5⟩⟩
    · obtain rfl : i = m := by omega
      have t1 : decide ((i : Int) < (i : Int)) = false := decide_eq_false (by omega)
      have t2 : decide (i < i) = false := decide_eq_false (by omega)
      go_wp2_with fail
      go_ret
      have := HG.out
      rw [Nat.sub_self, List.replicate_zero, List.append_nil] at this
      exact ⟨g, rfl, HGW.out, this, HB.out⟩
end Go.Proofs.Ytjnicooboiijgaa.Sg
