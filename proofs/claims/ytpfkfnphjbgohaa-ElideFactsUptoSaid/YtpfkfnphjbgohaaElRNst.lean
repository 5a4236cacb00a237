/-
  Newest of the reference.
-/
import Derived.Test.YtpfkfnphjbgohaaElNst
set_option linter.unusedVariables false
set_option linter.unusedSimpArgs false
namespace Go.Proofs.Ytpfkfnphjbgohaa.El
open Go.RowKit Go.Proofs.YtpfkfnphjbgohaaW.PrintWords Go.Proofs.YtpfkfnphjbgohaaW.PrintLast Go.Proofs.YtpfkfnphjbgohaaW.PrintMore Go.Proofs.Ytpfkfnphjbgohaa.PEa
attribute [local go_sem] binS_leq binS_gtr binS_geq max2_int min2_int max_two min_two maxS_two minS_two
set_option maxHeartbeats 8000000 in
set_option maxRecDepth 100000 in
theorem rnewest18 (w : World) (gs : Nat) (Ax : Option Addr) (cx : Nat) (xs : List S27) (hs : w.heap[gs]? = some (.cells #[.slice Ax xs.length cx] 42 (0, 0))) (hCx : Kd.C k27 w Ax xs.length xs) (hlx : xs.length ≤ 1000000)
    (A : Option Addr) (c : Nat) (l : List S46) (hC : Kd.C k46 w A l.length l) (hl : l.length ≤ 1000000000) :
    Calls Try.prog 18 #[.pointer (some ⟨gs, 0, none⟩), .slice A l.length c] w (NstQ w (newF xs l).1 (newF xs l).2) := by
  have HHas := Aside0.mk (fun (W : World) (hb : Below w.heap.size w W) (key : ByteArray) (seq : Int) => rhas28 W gs Ax cx xs key seq (blk_below hs hb) (Kd.C_below hCx hb) hlx)
  obtain ⟨n, hn⟩ : ∃ n, l.length = n := ⟨_, rfl⟩
  rw [hn] at hC hl ⊢
  have HC := Aside0.mk hC
  have HN := Aside0.mk hn
  clear hC hn hs hCx hlx
  by_cases hn0 : 0 < n
  rotate_left
  · have HF := Aside0.mk (show newF xs l = (z46, false) by rw [newF, if_pos (by rw [HN.out]; omega)])
    have hnd : ((n : Int) == 0) = true := by simp; omega
    go_enter Try.func18, Try.ntmps18
    go_wp2_with (first
      | ((with_reducible refine gate_dst (N := 4) rfl ?_); refine box_event ?hg (N := 4) ?hd (cs := #[.string ⟨#[]⟩, .int .u64 0, .slice none 0 0]) (t := 46) ?hr ?_; (case hd => rfl); (case hg => rfl); (case hr => first | (go_simp; done) | (go_simp; rfl)); intro gr hgr w1 hbox hb; have HB := Aside0.mk hb; have HR := Aside0.mk (show box46 w1 gr ⟨#[]⟩ 0 (.slice none 0 0) from hbox); have HG := Aside0.mk (show w.heap.size ≤ gr by omega); have hrc := box46_cells HR.out; have hrf := box46_free HR.out; clear hb hbox hgr))
    have hr7 := box46_put (f0' := ⟨#[]⟩) (f1' := 0) (v' := .slice none 0 0) HR.out
    refine bodyPost_ret (results_ct rfl _ _ gr 46 _ (0, 0) _ rfl (show box46 _ gr ⟨#[]⟩ 0 (.slice none 0 0) from hr7) Try.underlying46 rfl (by kernel_rfl)) rfl ?_
    rw [HF.out]
    exact ⟨none, 0, rfl, Nat.le_refl _, C_nilB _ _, below_put HB.out HG.out _ _ _⟩
  have hnd : ((n : Int) == 0) = false := by simp; omega
  go_enter Try.func18, Try.ntmps18
  go_wp2_with (first
    | ((with_reducible refine gate_dst (N := 4) rfl ?_); refine box_event ?hg (N := 4) ?hd (cs := #[.string ⟨#[]⟩, .int .u64 0, .slice none 0 0]) (t := 46) ?hr ?_; (case hd => rfl); (case hg => rfl); (case hr => first | (go_simp; done) | (go_simp; rfl)); intro gr hgr w1 hbox hb; have HB := Aside0.mk hb; have HR := Aside0.mk (show box46 w1 gr ⟨#[]⟩ 0 (.slice none 0 0) from hbox); have HG := Aside0.mk (show w.heap.size ≤ gr by omega); clear hb hbox hgr))
  go_loopw [6, 7] (fun b i W => ∃ k : Nat, 0 < k ∧ k ≤ n ∧ i = .int .i64 k ∧ b = .int .i64 (bst l k : Nat) ∧ Aside0 (Below w.heap.size w W) ∧ Aside0 (box46 W gr ⟨#[]⟩ 0 (.slice none 0 0))) (fun _ i _ => n - (intOf i).toNat)
  case atStart => exact ⟨1, by omega, by omega, rfl, rfl, HB, HR⟩
  case round =>
    clear HB HR
    obtain ⟨k, hk0, hk, rfl, rfl, HB, HR⟩ := hrel
    have hbk := bst_lt l k hk0
    obtain ⟨y, hy⟩ : ∃ y, rd_T46 l (bst l k : Nat) = y := ⟨_, rfl⟩
    have hC := Kd.C_below HC.out HB.out
    by_cases hkn : k < n
    · clear hk
      obtain ⟨x, hx⟩ : ∃ x, rd_T46 l (k : Int) = x := ⟨_, rfl⟩
      obtain ⟨ad, A2, c2, eA, x0, x1, x2, x3, x4⟩ := at_T46 hC (k : Int) (by omega) (by omega)
      subst eA
      rw [hx] at x0 x1 x2 x3 x4
      rw [Int.toNat_natCast] at x0 x1 x2
      have hS : bst l (k + 1) = if y.f1 < x.f1 then k else bst l k := by rw [bst, if_neg (by omega), hy, hx]
      have HS := Aside0.mk hS
      clear hS
      obtain ⟨b, hb⟩ : ∃ b, bst l k = b := ⟨_, rfl⟩
      rw [hb] at HS hbk hy ⊢
      obtain ⟨ad', A3, c3, eA, y0, y1, y2, y3, y4⟩ := at_T46 hC (b : Int) (by omega) (by omega)
      obtain rfl : ad = ad' := by injection eA
      rw [hy] at y0 y1 y2 y3 y4
      rw [Int.toNat_natCast] at y0 y1 y2
      clear eA hx hC hy hb y3 y4 x3 x4
      have hbi0 : (0 : Int) ≤ (b : Int) := by omega
      have hbi : (b : Int) < (n : Int) := by omega
      have hki0 : (0 : Int) ≤ (k : Int) := by omega
      have hki : (k : Int) < (n : Int) := by omega
      by_cases hlt : y.f1 < x.f1
      · have HLT := Aside0.mk hlt
        go_wp2_with fail
        go_quiet (fail)
        go_wp2_with fail
        go_roundw
        case measure => simp [intOf]; omega
        case rel => exact ⟨k + 1, by omega, by omega, by go_num, by rw [HS.out, if_pos HLT.out], ⟨pw_below_drewN HB.out _⟩, HR⟩
      · have HLT := Aside0.mk hlt
        have hdec : decide (y.f1 < x.f1) = false := decide_eq_false hlt
        go_wp2_with fail
        go_quiet (fail)
        go_wp2_with fail
        go_roundw
        case measure => simp [intOf]; omega
        case rel => exact ⟨k + 1, by omega, by omega, by go_num, by rw [HS.out, if_neg (Int.not_lt.mpr HLT.out)], ⟨pw_below_drewN HB.out _⟩, HR⟩
    · obtain rfl : k = n := by omega
      have hF : newF xs l = if hasB xs y.f0 y.f1 = true then (z46, false) else (y, true) := by rw [newF, if_neg (by rw [HN.out]; omega), HN.out, hy]
      have HH := Aside0.mk (fun (W : World) (hb : Below w.heap.size w W) => HHas.out W hb y.f0 y.f1)
      obtain ⟨V, hV⟩ : ∃ V, hasB xs y.f0 y.f1 = V := ⟨_, rfl⟩
      rw [hV] at hF HH
      have HF := Aside0.mk hF
      obtain ⟨b, hb⟩ : ∃ b, bst l k = b := ⟨_, rfl⟩
      rw [hb] at hbk hy ⊢
      obtain ⟨ad, A3, c3, eA, y0, y1, y2, y3, y4⟩ := at_T46 HC.out (b : Int) (by omega) (by omega)
      subst eA
      rw [hy] at y0 y1 y2 y3 y4
      rw [Int.toNat_natCast] at y0 y1 y2
      replace y0 := pw_cell_below HB.out y0
      replace y1 := pw_cell_below HB.out y1
      replace y2 := pw_cell_below HB.out y2
      have HYL := Aside0.mk (And.intro y3 y4)
      have hbi0 : (0 : Int) ≤ (b : Int) := by omega
      have hbi : (b : Int) < (k : Int) := by omega
      clear hC hy hb y3 y4 hF hV
      cases V
      · have HV := HH
        clear HH
        go_wp2_with fail
        refine start_ (n := 12) (S := fun w' => w'.cell? (ad.add (b * 3)) = some (.string y.f0) ∧ w'.cell? ⟨(ad.add (b * 3)).block, (ad.add (b * 3)).off + 1, none⟩ = some (.int .u64 y.f1)) (ds := [11]) #[false, false, false, false, false, false, false, false, false, false, false, false] (by kernel_rfl) rfl rfl ⟨y0, y1⟩ (fun hHeld => ?_)
        refine pure_ (i := 0) (N := some 30) (v := ?_) (a' := ?_) #[true, false, false, false, false, false, false, false, false, false, false, false] rfl rfl (by kernel_rfl) (fun _ _ _ h => h) (Or.inl ⟨by rfl, ?_⟩) ?_ ?_
        rotate_left
        · intro w'
          go_simp
          with_reducible rfl
        rotate_left
        · simp only [Act.put, List.setIfInBounds_toArray, List.set_cons_zero, List.set_cons_succ, i64_w, i32_w]
          rfl
        refine pure_ (i := 1) (N := some 31) (v := ?_) (a' := ?_) #[true, true, false, false, false, false, false, false, false, false, false, false] rfl rfl (by kernel_rfl) (fun _ _ _ h => h) (Or.inl ⟨by rfl, ?_⟩) ?_ ?_
        rotate_left
        · intro w'
          go_simp
          with_reducible rfl
        rotate_left
        · simp only [Act.put, List.setIfInBounds_toArray, List.set_cons_zero, List.set_cons_succ, i64_w, i32_w]
          rfl
        refine pure_ (i := 2) (N := some 32) (v := ?_) (a' := ?_) #[true, true, true, false, false, false, false, false, false, false, false, false] rfl rfl (by kernel_rfl) (fun _ _ _ h => h) (Or.inl ⟨by rfl, ?_⟩) ?_ ?_
        rotate_left
        · intro w'
          go_simp
          with_reducible rfl
        rotate_left
        · simp only [Act.put, List.setIfInBounds_toArray, List.set_cons_zero, List.set_cons_succ, i64_w, i32_w]
          rfl
        refine pure_ (i := 3) (N := some 33) (v := ?_) (a' := ?_) #[true, true, true, true, false, false, false, false, false, false, false, false] rfl rfl (by kernel_rfl) (fun _ _ _ h => h) (Or.inl ⟨by rfl, ?_⟩) ?_ ?_
        rotate_left
        · intro w'
          go_simp
          with_reducible rfl
        rotate_left
        · simp only [Act.put, List.setIfInBounds_toArray, List.set_cons_zero, List.set_cons_succ, i64_w, i32_w]
          rfl
        refine pure_ (i := 4) (N := some 34) (v := ?_) (a' := ?_) #[true, true, true, true, true, false, false, false, false, false, false, false] rfl rfl (by kernel_rfl) (fun _ _ _ h => h) (Or.inl ⟨by rfl, ?_⟩) ?_ ?_
        rotate_left
        · intro w'
          go_simp
          with_reducible rfl
        rotate_left
        · simp only [Act.put, List.setIfInBounds_toArray, List.set_cons_zero, List.set_cons_succ, i64_w, i32_w]
          rfl
        refine pure_ (i := 6) (N := some 36) (v := ?_) (a' := ?_) #[true, true, true, true, true, false, true, false, false, false, false, false] rfl rfl (by kernel_rfl) (fun _ _ _ h => h) (Or.inl ⟨by rfl, ?_⟩) ?_ ?_
        rotate_left
        · intro w'
          go_simp
          with_reducible rfl
        rotate_left
        · simp only [Act.put, List.setIfInBounds_toArray, List.set_cons_zero, List.set_cons_succ, i64_w, i32_w]
          rfl
        refine pure_ (i := 7) (N := some 37) (v := ?_) (a' := ?_) #[true, true, true, true, true, false, true, true, false, false, false, false] rfl rfl (by kernel_rfl) (fun _ _ _ h => h) (Or.inl ⟨by rfl, ?_⟩) ?_ ?_
        rotate_left
        · intro w'
          go_simp
          with_reducible rfl
        rotate_left
        · simp only [Act.put, List.setIfInBounds_toArray, List.set_cons_zero, List.set_cons_succ, i64_w, i32_w]
          rfl
        refine pure_ (i := 8) (N := some 38) (v := ?_) (a' := ?_) #[true, true, true, true, true, false, true, true, true, false, false, false] rfl rfl (by kernel_rfl) (fun _ _ _ h => h) (Or.inl ⟨by rfl, ?_⟩) ?_ ?_
        rotate_left
        · intro w'
          go_simp
          with_reducible rfl
        rotate_left
        · simp only [Act.put, List.setIfInBounds_toArray, List.set_cons_zero, List.set_cons_succ, i64_w, i32_w]
          rfl
        refine pure_ (i := 9) (N := some 39) (v := ?_) (a' := ?_) #[true, true, true, true, true, false, true, true, true, true, false, false] rfl rfl (by kernel_rfl) (fun _ _ _ h => h) (Or.inl ⟨by rfl, ?_⟩) ?_ ?_
        rotate_left
        · intro w'
          go_simp
          with_reducible rfl
        rotate_left
        · simp only [Act.put, List.setIfInBounds_toArray, List.set_cons_zero, List.set_cons_succ, i64_w, i32_w]
          rfl
        refine take_ (i := 5) (N := some 35) (v := ?_) (a' := ?_) #[true, true, true, true, true, true, true, true, true, true, false, false] rfl rfl (by kernel_rfl) (fun _ _ _ h => h) (Or.inl ⟨by rfl, ?_⟩) hHeld ?_ ?_
        rotate_left
        · rintro w' ⟨s0, s1⟩
          go_simp
          with_reducible rfl
        rotate_left
        · simp only [Act.put, List.setIfInBounds_toArray, List.set_cons_zero, List.set_cons_succ, i64_w, i32_w]
          rfl
        refine take_ (i := 10) (N := some 40) (v := ?_) (a' := ?_) #[true, true, true, true, true, true, true, true, true, true, true, false] rfl rfl (by kernel_rfl) (fun _ _ _ h => h) (Or.inl ⟨by rfl, ?_⟩) hHeld ?_ ?_
        rotate_left
        · rintro w' ⟨s0, s1⟩
          go_simp
          with_reducible rfl
        rotate_left
        · simp only [Act.put, List.setIfInBounds_toArray, List.set_cons_zero, List.set_cons_succ, i64_w, i32_w]
          rfl
        refine last_ (i := 11) (N := some 41) #[true, true, true, true, true, true, true, true, true, true, true, true] rfl rfl (by kernel_rfl) (by decide) (fun K hK => ?_)
        refine goes_ Try.func28 (by kernel_rfl) rfl #[.pointer (some ⟨gs, 0, none⟩), .string y.f0, .int .u64 y.f1] (by rfl) rfl rfl (by simp only [List.map_toArray, List.map_cons, List.map_nil]; rfl) ?_
        refine Calls.mono (HV.out _ (below_drew HB.out)) ?_
        rintro e w5 ⟨rfl, hb5⟩
        refine ⟨_, rfl, ?_⟩
        refine hK.out _ _ ?_
        clear hK K
        refine norm_ (a' := ?_) ?_ ?_
        rotate_left
        · show Act.put _ (some 41) _ = _
          simp only [Act.put, List.setIfInBounds_toArray, List.set_cons_zero, List.set_cons_succ, i64_w, i32_w]
          rfl
        refine done_ (by kernel_rfl) ?_
        have hb6 := below_then (below_drew HB.out) HB.out.size hb5
        replace hb5 := below_undrew hb5
        have z0 := pw_cell_below hb5 y0
        have z1 := pw_cell_below hb5 y1
        have z2 := pw_cell_below hb5 y2
        have HB6 := Aside0.mk hb6
        have HR6 := Aside0.mk (show box46 w5 gr ⟨#[]⟩ 0 (.slice none 0 0) from blk_below HR.out hb5)
        have hrc := box46_cells HR6.out
        have hrf := box46_free HR6.out
        clear hb6 hb5 y0 y1 y2 hHeld
        go_wp2_with fail
        have hr7 := box46_put (f0' := y.f0) (f1' := y.f1) (v' := .slice A3 y.f2.length c3) HR6.out
        refine bodyPost_ret (results_ct rfl _ _ gr 46 _ (0, 0) _ rfl (show box46 _ gr y.f0 y.f1 (.slice A3 y.f2.length c3) from hr7) Try.underlying46 rfl (by kernel_rfl)) rfl ?_
        rw [HF.out]
        exact ⟨A3, c3, rfl, HYL.out.1, Kd.C_below HYL.out.2 (below_put HB6.out HG.out _ _ _), below_put HB6.out HG.out _ _ _⟩
      · have HV := HH
        clear HH
        go_wp2_with fail
        refine start_ (n := 12) (S := fun w' => w'.cell? (ad.add (b * 3)) = some (.string y.f0) ∧ w'.cell? ⟨(ad.add (b * 3)).block, (ad.add (b * 3)).off + 1, none⟩ = some (.int .u64 y.f1)) (ds := [11]) #[false, false, false, false, false, false, false, false, false, false, false, false] (by kernel_rfl) rfl rfl ⟨y0, y1⟩ (fun hHeld => ?_)
        refine pure_ (i := 0) (N := some 30) (v := ?_) (a' := ?_) #[true, false, false, false, false, false, false, false, false, false, false, false] rfl rfl (by kernel_rfl) (fun _ _ _ h => h) (Or.inl ⟨by rfl, ?_⟩) ?_ ?_
        rotate_left
        · intro w'
          go_simp
          with_reducible rfl
        rotate_left
        · simp only [Act.put, List.setIfInBounds_toArray, List.set_cons_zero, List.set_cons_succ, i64_w, i32_w]
          rfl
        refine pure_ (i := 1) (N := some 31) (v := ?_) (a' := ?_) #[true, true, false, false, false, false, false, false, false, false, false, false] rfl rfl (by kernel_rfl) (fun _ _ _ h => h) (Or.inl ⟨by rfl, ?_⟩) ?_ ?_
        rotate_left
        · intro w'
          go_simp
          with_reducible rfl
        rotate_left
        · simp only [Act.put, List.setIfInBounds_toArray, List.set_cons_zero, List.set_cons_succ, i64_w, i32_w]
          rfl
        refine pure_ (i := 2) (N := some 32) (v := ?_) (a' := ?_) #[true, true, true, false, false, false, false, false, false, false, false, false] rfl rfl (by kernel_rfl) (fun _ _ _ h => h) (Or.inl ⟨by rfl, ?_⟩) ?_ ?_
        rotate_left
        · intro w'
          go_simp
          with_reducible rfl
        rotate_left
        · simp only [Act.put, List.setIfInBounds_toArray, List.set_cons_zero, List.set_cons_succ, i64_w, i32_w]
          rfl
        refine pure_ (i := 3) (N := some 33) (v := ?_) (a' := ?_) #[true, true, true, true, false, false, false, false, false, false, false, false] rfl rfl (by kernel_rfl) (fun _ _ _ h => h) (Or.inl ⟨by rfl, ?_⟩) ?_ ?_
        rotate_left
        · intro w'
          go_simp
          with_reducible rfl
        rotate_left
        · simp only [Act.put, List.setIfInBounds_toArray, List.set_cons_zero, List.set_cons_succ, i64_w, i32_w]
          rfl
        refine pure_ (i := 4) (N := some 34) (v := ?_) (a' := ?_) #[true, true, true, true, true, false, false, false, false, false, false, false] rfl rfl (by kernel_rfl) (fun _ _ _ h => h) (Or.inl ⟨by rfl, ?_⟩) ?_ ?_
        rotate_left
        · intro w'
          go_simp
          with_reducible rfl
        rotate_left
        · simp only [Act.put, List.setIfInBounds_toArray, List.set_cons_zero, List.set_cons_succ, i64_w, i32_w]
          rfl
        refine pure_ (i := 6) (N := some 36) (v := ?_) (a' := ?_) #[true, true, true, true, true, false, true, false, false, false, false, false] rfl rfl (by kernel_rfl) (fun _ _ _ h => h) (Or.inl ⟨by rfl, ?_⟩) ?_ ?_
        rotate_left
        · intro w'
          go_simp
          with_reducible rfl
        rotate_left
        · simp only [Act.put, List.setIfInBounds_toArray, List.set_cons_zero, List.set_cons_succ, i64_w, i32_w]
          rfl
        refine pure_ (i := 7) (N := some 37) (v := ?_) (a' := ?_) #[true, true, true, true, true, false, true, true, false, false, false, false] rfl rfl (by kernel_rfl) (fun _ _ _ h => h) (Or.inl ⟨by rfl, ?_⟩) ?_ ?_
        rotate_left
        · intro w'
          go_simp
          with_reducible rfl
        rotate_left
        · simp only [Act.put, List.setIfInBounds_toArray, List.set_cons_zero, List.set_cons_succ, i64_w, i32_w]
          rfl
        refine pure_ (i := 8) (N := some 38) (v := ?_) (a' := ?_) #[true, true, true, true, true, false, true, true, true, false, false, false] rfl rfl (by kernel_rfl) (fun _ _ _ h => h) (Or.inl ⟨by rfl, ?_⟩) ?_ ?_
        rotate_left
        · intro w'
          go_simp
          with_reducible rfl
        rotate_left
        · simp only [Act.put, List.setIfInBounds_toArray, List.set_cons_zero, List.set_cons_succ, i64_w, i32_w]
          rfl
        refine pure_ (i := 9) (N := some 39) (v := ?_) (a' := ?_) #[true, true, true, true, true, false, true, true, true, true, false, false] rfl rfl (by kernel_rfl) (fun _ _ _ h => h) (Or.inl ⟨by rfl, ?_⟩) ?_ ?_
        rotate_left
        · intro w'
          go_simp
          with_reducible rfl
        rotate_left
        · simp only [Act.put, List.setIfInBounds_toArray, List.set_cons_zero, List.set_cons_succ, i64_w, i32_w]
          rfl
        refine take_ (i := 5) (N := some 35) (v := ?_) (a' := ?_) #[true, true, true, true, true, true, true, true, true, true, false, false] rfl rfl (by kernel_rfl) (fun _ _ _ h => h) (Or.inl ⟨by rfl, ?_⟩) hHeld ?_ ?_
        rotate_left
        · rintro w' ⟨s0, s1⟩
          go_simp
          with_reducible rfl
        rotate_left
        · simp only [Act.put, List.setIfInBounds_toArray, List.set_cons_zero, List.set_cons_succ, i64_w, i32_w]
          rfl
        refine take_ (i := 10) (N := some 40) (v := ?_) (a' := ?_) #[true, true, true, true, true, true, true, true, true, true, true, false] rfl rfl (by kernel_rfl) (fun _ _ _ h => h) (Or.inl ⟨by rfl, ?_⟩) hHeld ?_ ?_
        rotate_left
        · rintro w' ⟨s0, s1⟩
          go_simp
          with_reducible rfl
        rotate_left
        · simp only [Act.put, List.setIfInBounds_toArray, List.set_cons_zero, List.set_cons_succ, i64_w, i32_w]
          rfl
        refine last_ (i := 11) (N := some 41) #[true, true, true, true, true, true, true, true, true, true, true, true] rfl rfl (by kernel_rfl) (by decide) (fun K hK => ?_)
        refine goes_ Try.func28 (by kernel_rfl) rfl #[.pointer (some ⟨gs, 0, none⟩), .string y.f0, .int .u64 y.f1] (by rfl) rfl rfl (by simp only [List.map_toArray, List.map_cons, List.map_nil]; rfl) ?_
        refine Calls.mono (HV.out _ (below_drew HB.out)) ?_
        rintro e w5 ⟨rfl, hb5⟩
        refine ⟨_, rfl, ?_⟩
        refine hK.out _ _ ?_
        clear hK K
        refine norm_ (a' := ?_) ?_ ?_
        rotate_left
        · show Act.put _ (some 41) _ = _
          simp only [Act.put, List.setIfInBounds_toArray, List.set_cons_zero, List.set_cons_succ, i64_w, i32_w]
          rfl
        refine done_ (by kernel_rfl) ?_
        have HB6 := Aside0.mk (below_then (below_drew HB.out) HB.out.size hb5)
        replace hb5 := below_undrew hb5
        have HR6 := Aside0.mk (show box46 w5 gr ⟨#[]⟩ 0 (.slice none 0 0) from blk_below HR.out hb5)
        clear hb5 y0 y1 y2 hHeld
        have hrc := box46_cells HR6.out
        have hrf := box46_free HR6.out
        go_wp2_with fail
        have hr7 := box46_put (f0' := ⟨#[]⟩) (f1' := 0) (v' := .slice none 0 0) HR6.out
        refine bodyPost_ret (results_ct rfl _ _ gr 46 _ (0, 0) _ rfl (show box46 _ gr ⟨#[]⟩ 0 (.slice none 0 0) from hr7) Try.underlying46 rfl (by kernel_rfl)) rfl ?_
        rw [HF.out]
        exact ⟨none, 0, rfl, Nat.le_refl _, C_nilB _ _, below_put HB6.out HG.out _ _ _⟩
end Go.Proofs.Ytpfkfnphjbgohaa.El
