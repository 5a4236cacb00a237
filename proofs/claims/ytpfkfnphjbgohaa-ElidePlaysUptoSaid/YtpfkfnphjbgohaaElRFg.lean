/-
  The reference's Forget.
-/
import Derived.Test.YtpfkfnphjbgohaaElRFor
set_option linter.unusedVariables false
set_option linter.unusedSimpArgs false
namespace Go.Proofs.Ytpfkfnphjbgohaa.El
open Go.RowKit Go.Proofs.YtpfkfnphjbgohaaW.PrintWords Go.Proofs.YtpfkfnphjbgohaaW.PrintLast Go.Proofs.YtpfkfnphjbgohaaW.PrintMore Go.Proofs.Ytpfkfnphjbgohaa.PEa
attribute [local go_sem] binS_leq binS_gtr binS_geq max2_int min2_int max_two min_two maxS_two minS_two
/-- A set's box holds a row that was made since w; nothing else has changed. -/
def NewRow (t : TypeId) (w : World) (g : Nat) (ys : List S27) (w' : World) : Prop :=
  ∃ v', w'.heap[g]? = some (.cells #[v'] t (0, 0)) ∧ Kd.R k27 27 w' w.heap.size (fun _ => True) v' ys ∧ w.grownBy w' (some g)
def gone (L : List S27) (up : Int) : Nat := (L.filter (fun x => !keepP up x)).length
theorem gone_take {up : Int} {L : List S27} {m : Nat} {x : S27} (h : m < L.length) (hx : rd_T27 L (m : Int) = x) : gone (L.take (m + 1)) up = if keepP up x = true then gone (L.take m) up else gone (L.take m) up + 1 := by
  rw [gone, filter_take h hx]
  cases keepP up x
  · simp [gone]
  · simp [gone]
theorem gone_le (L : List S27) (m : Nat) (up : Int) : gone (L.take m) up ≤ m := by
  have h1 := List.length_filter_le (fun x => !keepP up x) (L.take m)
  rw [List.length_take] at h1
  unfold gone
  omega
theorem NewRow_nil {w : World} {g : Nat} {v : Value} {t : TypeId} (h : w.heap[g]? = some (.cells #[v] t (0, 0))) : NewRow t w g [] (w.setCell ⟨g, 0, none⟩ (.slice none 0 0)) := by
  refine ⟨_, one_setCell h, Kd.R_nil _ _ _ _ _, rfl, rfl, rfl, ?_, ?_⟩
  · simp [World.setCell]
  · intro i hi hne
    exact Below.heap_setCell w ⟨g, 0, none⟩ _ i (by intro e; subst e; exact hne rfl)
theorem NewRow_next {w W w3 : World} {g : Nat} {v v3 : Value} {ys zs : List S27} (hg : g < w.heap.size) (h : W.heap[g]? = some (.cells #[v] 42 (0, 0))) (hR : Kd.R k27 27 W w.heap.size (fun _ => True) v ys) (hG : w.grownBy W (some g))
    (hR3 : Kd.R k27 27 w3 w.heap.size (fun _ => True) v3 zs) (hB3 : Below w.heap.size W.drew w3) (hg3 : W.drew.grownBy w3 v.ownBlock) : NewRow 42 w g zs (w3.setCell ⟨g, 0, none⟩ v3) := by
  have hne : some g ≠ v.ownBlock := Kd.R_ne hR h (by decide)
  have hb3 : w3.heap[g]? = some (.cells #[v] 42 (0, 0)) := (hg3.block g (blk_lt h) hne).trans h
  refine ⟨v3, one_setCell hb3, Kd.R_set hR3 hb3 (by decide) 0 v3, ?_, ?_, ?_, ?_, ?_⟩
  · exact hB3.os.trans hG.os
  · exact hB3.tape.trans hG.tape
  · exact hB3.output.trans hG.output
  · have h1 := hB3.size
    have h2 := hG.size
    have h3 : W.drew.heap.size = W.heap.size := rfl
    have h4 : (w3.setCell ⟨g, 0, none⟩ v3).heap.size = w3.heap.size := by simp [World.setCell]
    omega
  · intro i hi hne
    rw [Below.heap_setCell w3 ⟨g, 0, none⟩ v3 i (by intro e; subst e; exact hne rfl)]
    exact (hB3.block i hi).trans (hG.block i hi hne)
set_option maxHeartbeats 8000000 in
set_option maxRecDepth 100000 in
theorem rforget25 (w : World) (g : Nat) (A : Option Addr) (c : Nat) (xs : List S27) (up : Int) (hs : w.heap[g]? = some (.cells #[.slice A xs.length c] 42 (0, 0))) (hC : Kd.C k27 w A xs.length xs) (hl : xs.length ≤ 400000) :
    Calls Try.prog 25 #[.pointer (some ⟨g, 0, none⟩), .int .u64 up] w fun r w' => r = .returned (.int .i64 (gone (refList xs) up)) ∧ NewRow 42 w g (keepF (refList xs) up) w' := by
  have hcall := Aside0.mk (list26 w g A c xs hs hC hl)
  have hll := refList_len xs
  obtain ⟨L, hL⟩ : ∃ L, refList xs = L := ⟨_, rfl⟩
  rw [hL] at hcall hll ⊢
  obtain ⟨n, hn⟩ : ∃ n, L.length = n := ⟨_, rfl⟩
  rw [hn] at hll
  have hnl : n ≤ 800000 := by omega
  have HS := Aside0.mk hs
  clear hs hC hll hL hl
  go_enter Try.func25, Try.ntmps25
  go_wp2_with (go_at_call 26; refine hcall.out.mono ?_; rintro r w1 ⟨vb, rfl, hRb, hB1⟩; obtain ⟨Ab, cb, eb⟩ := Kd.R_slice hRb; subst eb; rw [hn] at hRb ⊢; have HRb := Aside0.mk hRb; have HB1 := Aside0.mk hB1; have hcg := cell_of_one (blk_below HS.out hB1); have hfg := free_of_one (blk_below HS.out hB1); clear hRb hB1)
  have HN := Aside0.mk hn
  have HS1 := blk_below HS.out HB1.out
  have HW0 := Aside0.mk (Kd.R_types HRb.out HS1 (by decide))
  have HNR := Aside0.mk (NewRow_nil HS1)
  have hgl := blk_lt HS1
  clear hn hcall hcg hfg HRb
  go_loopw [6, 7] (fun nn i W => ∃ k : Nat, k ≤ n ∧ i = .int .i64 k ∧ nn = .int .i64 (gone (L.take k) up : Nat) ∧ Aside0 (NewRow 42 w1 g (keepF (L.take k) up) W)) (fun _ i _ => n - (intOf i).toNat)
  case atStart => exact ⟨0, Nat.zero_le _, rfl, rfl, HNR⟩
  case round =>
    obtain ⟨k, hk, rfl, rfl, HO⟩ := hrel
    obtain ⟨v, hb, hR, hG⟩ := HO.out
    have HGr := Aside0.mk hG
    have hC := (Kd.R_reads' (Kd.R_grown HW0.out hG (fun k hk => by intro e; exact hk.2 (by injection e)))).2.2
    rw [HN.out] at hC
    by_cases hkn : k < n
    · clear hk
      obtain ⟨x, hx⟩ : ∃ x, rd_T27 L (k : Int) = x := ⟨_, rfl⟩
      obtain ⟨ad, eA, x0, x1, x2⟩ := at_T27 hC (k : Int) (by omega) (by omega)
      subst eA
      rw [hx] at x0 x1 x2
      rw [Int.toNat_natCast] at x0 x1 x2
      have HS := Aside0.mk (filter_take (p := keepP up) (by rw [HN.out]; exact hkn) hx)
      have HG := Aside0.mk (gone_take (up := up) (by rw [HN.out]; exact hkn) hx)
      have hgle := gone_le L k up
      have HOl := Aside0.mk (show ((L.take k).filter (keepP up)).length ≤ 1000000 by have := filter_le (p := keepP up) (L := L) (m := k); rw [HN.out] at this; omega)
      have HRv := Aside0.mk hR
      have HBk := Aside0.mk hb
      obtain ⟨A9, n9, c9, e9⟩ := R_slice3 hR
      subst e9
      have hcg := cell_of_one hb
      clear hx hC hG hR hb
      by_cases hp : up < x.f2
      · have hpd : decide (x.f2 ≤ up) = false := decide_eq_false (by omega)
        have HS1 := Aside0.mk (show keepF (L.take (k + 1)) up = (L.take k).filter (keepP up) ++ [x] by rw [keepF, HS.out, if_pos (by simpa [keepP] using hp)])
        have HG1 := Aside0.mk (show gone (L.take (k + 1)) up = gone (L.take k) up by rw [HG.out, if_pos (by simpa [keepP] using hp)])
        clear HS HG hp
        obtain ⟨ys, hys⟩ : ∃ ys, (L.take k).filter (keepP up) = ys := ⟨_, rfl⟩
        rw [keepF, hys] at HRv
        rw [hys] at HOl HS1
        obtain ⟨cnt, hcnt⟩ : ∃ cnt, gone (L.take k) up = cnt := ⟨_, rfl⟩
        rw [hcnt] at hgle HG1 ⊢
        clear hys hcnt HO
        go_wp2_with fail
        refine start_ (n := 14) (S := fun w' => w'.cell? ⟨g, 0, none⟩ = some (.slice A9 n9 c9) ∧ w'.cell? (ad.add (k * 3)) = some (.string x.f0) ∧ w'.cell? ⟨(ad.add (k * 3)).block, (ad.add (k * 3)).off + 1, none⟩ = some (.string x.f1) ∧ w'.cell? ⟨(ad.add (k * 3)).block, (ad.add (k * 3)).off + 2, none⟩ = some (.int .u64 x.f2)) (ds := [10, 13]) #[false, false, false, false, false, false, false, false, false, false, false, false, false, false] (by kernel_rfl) rfl rfl ⟨hcg, x0, x1, x2⟩ (fun hHeld => ?_)
        refine pure_ (i := 0) (N := some 28) (v := ?_) (a' := ?_) #[true, false, false, false, false, false, false, false, false, false, false, false, false, false] rfl rfl (by kernel_rfl) (fun _ _ _ h => h) (Or.inl ⟨by rfl, ?_⟩) ?_ ?_
        rotate_left
        · intro w'
          go_simp
          with_reducible rfl
        rotate_left
        · simp only [Act.put, List.setIfInBounds_toArray, List.set_cons_zero, List.set_cons_succ, i64_w, i32_w]
          rfl
        refine pure_ (i := 1) (N := some 29) (v := ?_) (a' := ?_) #[true, true, false, false, false, false, false, false, false, false, false, false, false, false] rfl rfl (by kernel_rfl) (fun _ _ _ h => h) (Or.inl ⟨by rfl, ?_⟩) ?_ ?_
        rotate_left
        · intro w'
          go_simp
          with_reducible rfl
        rotate_left
        · simp only [Act.put, List.setIfInBounds_toArray, List.set_cons_zero, List.set_cons_succ, i64_w, i32_w]
          rfl
        refine pure_ (i := 2) (N := some 30) (v := ?_) (a' := ?_) #[true, true, true, false, false, false, false, false, false, false, false, false, false, false] rfl rfl (by kernel_rfl) (fun _ _ _ h => h) (Or.inl ⟨by rfl, ?_⟩) ?_ ?_
        rotate_left
        · intro w'
          go_simp
          with_reducible rfl
        rotate_left
        · simp only [Act.put, List.setIfInBounds_toArray, List.set_cons_zero, List.set_cons_succ, i64_w, i32_w]
          rfl
        refine pure_ (i := 3) (N := some 31) (v := ?_) (a' := ?_) #[true, true, true, true, false, false, false, false, false, false, false, false, false, false] rfl rfl (by kernel_rfl) (fun _ _ _ h => h) (Or.inl ⟨by rfl, ?_⟩) ?_ ?_
        rotate_left
        · intro w'
          go_simp
          with_reducible rfl
        rotate_left
        · simp only [Act.put, List.setIfInBounds_toArray, List.set_cons_zero, List.set_cons_succ, i64_w, i32_w]
          rfl
        refine pure_ (i := 5) (N := some 33) (v := ?_) (a' := ?_) #[true, true, true, true, false, true, false, false, false, false, false, false, false, false] rfl rfl (by kernel_rfl) (fun _ _ _ h => h) (Or.inl ⟨by rfl, ?_⟩) ?_ ?_
        rotate_left
        · intro w'
          go_simp
          with_reducible rfl
        rotate_left
        · simp only [Act.put, List.setIfInBounds_toArray, List.set_cons_zero, List.set_cons_succ, i64_w, i32_w]
          rfl
        refine pure_ (i := 6) (N := some 34) (v := ?_) (a' := ?_) #[true, true, true, true, false, true, true, false, false, false, false, false, false, false] rfl rfl (by kernel_rfl) (fun _ _ _ h => h) (Or.inl ⟨by rfl, ?_⟩) ?_ ?_
        rotate_left
        · intro w'
          go_simp
          with_reducible rfl
        rotate_left
        · simp only [Act.put, List.setIfInBounds_toArray, List.set_cons_zero, List.set_cons_succ, i64_w, i32_w]
          rfl
        refine pure_ (i := 7) (N := some 35) (v := ?_) (a' := ?_) #[true, true, true, true, false, true, true, true, false, false, false, false, false, false] rfl rfl (by kernel_rfl) (fun _ _ _ h => h) (Or.inl ⟨by rfl, ?_⟩) ?_ ?_
        rotate_left
        · intro w'
          go_simp
          with_reducible rfl
        rotate_left
        · simp only [Act.put, List.setIfInBounds_toArray, List.set_cons_zero, List.set_cons_succ, i64_w, i32_w]
          rfl
        refine take_ (i := 4) (N := some 32) (v := ?_) (a' := ?_) #[true, true, true, true, true, true, true, true, false, false, false, false, false, false] rfl rfl (by kernel_rfl) (fun _ _ _ h => h) (Or.inl ⟨by rfl, ?_⟩) hHeld ?_ ?_
        rotate_left
        · rintro w' ⟨s0, s1, s2, s3⟩
          go_simp
          with_reducible rfl
        rotate_left
        · simp only [Act.put, List.setIfInBounds_toArray, List.set_cons_zero, List.set_cons_succ, i64_w, i32_w]
          rfl
        refine take_ (i := 8) (N := some 36) (v := ?_) (a' := ?_) #[true, true, true, true, true, true, true, true, true, false, false, false, false, false] rfl rfl (by kernel_rfl) (fun _ _ _ h => h) (Or.inl ⟨by rfl, ?_⟩) hHeld ?_ ?_
        rotate_left
        · rintro w' ⟨s0, s1, s2, s3⟩
          go_simp
          with_reducible rfl
        rotate_left
        · simp only [Act.put, List.setIfInBounds_toArray, List.set_cons_zero, List.set_cons_succ, i64_w, i32_w]
          rfl
        refine one_ (i := 9) (N := some 37) #[true, true, true, true, true, true, true, true, true, true, false, false, false, false] rfl rfl (by kernel_rfl) (by decide) (fun K hK => ?_)
        refine value_ (w1 := ?_) (v := ?_) (by rfl) rfl ?_ ?_
        rotate_left 2
        · go_simp
          constructor
          · rfl
          · rfl
        refine hK.out _ _ ⟨pw_cell_below (below_alloc (Below.refl _ _) _) hHeld.1, pw_cell_below (below_alloc (Below.refl _ _) _) hHeld.2.1, pw_cell_below (below_alloc (Below.refl _ _) _) hHeld.2.2.1, pw_cell_below (below_alloc (Below.refl _ _) _) hHeld.2.2.2⟩ (fun hHeld => ?_)
        clear hK K
        refine norm_ (a' := ?_) ?_ ?_
        rotate_left
        · show Act.put _ (some 37) _ = _
          simp only [Act.put, List.setIfInBounds_toArray, List.set_cons_zero, List.set_cons_succ, i64_w, i32_w]
          rfl
        refine last_ (i := 10) (N := some 38) #[true, true, true, true, true, true, true, true, true, true, true, false, false, false] rfl rfl (by kernel_rfl) (by decide) (fun K hK => ?_)
        refine Kd.R_append_step k27 w1.heap.size (by rfl) (.tmp 32) (.tmp 37) 22 27 _ 40 rfl Try.underlying22 info27 rfl (by decide) (by decide) (.slice A9 n9 c9) ys x [.string x.f0, .string x.f1, .int .u64 x.f2] (fun _ => True) (fun _ => False) rfl rfl (k27_mkM _ _ _ x) (fun _ h => h.elim) (fun _ _ => trivial) (Kd.R_drew HRv.out) (Below.refl _ _) HGr.out.size (by have := HOl.out; omega) ?_
        intro v3 w3 hR3 hB3 hg3 hat3
        obtain ⟨A3, m3, c3, e3⟩ := R_slice3 hR3
        subst e3
        have hb3 : w3.heap[g]? = some (.cells #[.slice A9 n9 c9] 42 (0, 0)) := (hg3.block g (blk_lt HBk.out) (Kd.R_ne HRv.out HBk.out (by decide))).trans HBk.out
        have hcg3 := cell_of_one hb3
        have hfg3 := free_of_one hb3
        refine hK.out _ _ ?_
        clear hK K
        refine norm_ (a' := ?_) ?_ ?_
        rotate_left
        · show Act.put _ (some 38) _ = _
          simp only [Act.put, List.setIfInBounds_toArray, List.set_cons_zero, List.set_cons_succ, i64_w, i32_w]
          rfl
        refine pure_ (i := 11) (N := some 39) (v := ?_) (a' := ?_) #[true, true, true, true, true, true, true, true, true, true, true, true, false, false] rfl rfl (by kernel_rfl) (fun _ _ _ h => h) (Or.inl ⟨by rfl, ?_⟩) ?_ ?_
        rotate_left
        · intro w'
          go_simp
          with_reducible rfl
        rotate_left
        · simp only [Act.put, List.setIfInBounds_toArray, List.set_cons_zero, List.set_cons_succ, i64_w, i32_w]
          rfl
        refine pure_ (i := 12) (N := some 40) (v := ?_) (a' := ?_) #[true, true, true, true, true, true, true, true, true, true, true, true, true, false] rfl rfl (by kernel_rfl) (fun _ _ _ h => h) (Or.inl ⟨by rfl, ?_⟩) ?_ ?_
        rotate_left
        · intro w'
          go_simp
          with_reducible rfl
        rotate_left
        · simp only [Act.put, List.setIfInBounds_toArray, List.set_cons_zero, List.set_cons_succ, i64_w, i32_w]
          rfl
        refine last_ (i := 13) (N := none) #[true, true, true, true, true, true, true, true, true, true, true, true, true, true] rfl rfl (by kernel_rfl) (by decide) (fun K hK => ?_)
        refine skip_ (w1 := ?_) (by rfl) rfl ?_ ?_
        rotate_left
        · go_simp
          rfl
        refine hK.out _ _ ?_
        clear hK K
        refine done_ (by kernel_rfl) ?_
        have HQ := Aside0.mk (NewRow_next hgl HBk.out HRv.out HGr.out hR3 hB3 hg3)
        clear hHeld hcg3 hfg3 hb3 hat3 hR3 hg3 hB3 hcg
        go_wp2_with fail
        go_roundw
        case measure => simp [intOf]; omega
        case rel => exact ⟨k + 1, by omega, by go_num, by rw [HG1.out], ⟨by rw [HS1.out]; exact HQ.out⟩⟩
      · have hpd : decide (x.f2 ≤ up) = true := decide_eq_true (by omega)
        have HS1 := Aside0.mk (show keepF (L.take (k + 1)) up = keepF (L.take k) up by rw [keepF, HS.out, if_neg (by simpa [keepP] using hp)]; rfl)
        have HG1 := Aside0.mk (show gone (L.take (k + 1)) up = gone (L.take k) up + 1 by rw [HG.out, if_neg (by simpa [keepP] using hp)])
        obtain ⟨cnt, hcnt⟩ : ∃ cnt, gone (L.take k) up = cnt := ⟨_, rfl⟩
        rw [hcnt] at hgle HG1 ⊢
        clear HS HG hp hcnt
        go_wp2_with fail
        go_roundw
        case measure => simp [intOf]; omega
        case rel => exact ⟨k + 1, by omega, by go_num, by rw [HG1.out]; go_num, ⟨by rw [HS1.out]; exact HO.out⟩⟩
    · obtain rfl : k = n := by omega
      rw [List.take_of_length_le (by rw [HN.out]; exact Nat.le_refl _)] at HO ⊢
      have HB1o := HB1.out
      have hfin : NewRow 42 w g (keepF L up) wr := by
        obtain ⟨v, h1, h2, h3⟩ := HO.out
        refine ⟨v, h1, Kd.R_lower h2 HB1o.size, h3.os.trans HB1o.os, h3.tape.trans HB1o.tape, h3.output.trans HB1o.output, Nat.le_trans HB1o.size h3.size, fun i hi hne => (h3.block i (Nat.lt_of_lt_of_le hi HB1o.size) hne).trans (HB1o.block i hi)⟩
      have HFin := Aside0.mk hfin
      clear hfin hb hR hG hC HB1o
      go_wp2_with fail
      go_ret
      exact ⟨rfl, HFin.out⟩
end Go.Proofs.Ytpfkfnphjbgohaa.El
