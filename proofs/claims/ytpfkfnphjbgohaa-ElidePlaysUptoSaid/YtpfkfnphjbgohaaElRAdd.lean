/-
  The reference's set: Add and Has.
-/
import Derived.Test.YtpfkfnphjbgohaaElAds
set_option linter.unusedVariables false
set_option linter.unusedSimpArgs false
namespace Go.Proofs.Ytpfkfnphjbgohaa.El
open Go.RowKit Go.Proofs.YtpfkfnphjbgohaaW.PrintWords Go.Proofs.YtpfkfnphjbgohaaW.PrintLast Go.Proofs.YtpfkfnphjbgohaaW.PrintMore Go.Proofs.Ytpfkfnphjbgohaa.PEa
attribute [local go_sem] binS_leq binS_gtr binS_geq max2_int min2_int max_two min_two maxS_two minS_two
theorem check23 (w : World) (e : S27) : Calls Try.prog 23 #[.agg #[.string e.f0, .string e.f1, .int .u64 e.f2]] w fun r w' => r = .returned (.int .i64 (if e.f0 < e.f1 then 0 else 1)) ∧ Below w.heap.size w w' := by
  refine flintref12_Check.calls e.f0 e.f1 e.f2 _ w ?_
  unfold flintref12_Check.f
  by_cases h : e.f0 < e.f1
  · rw [if_pos (less_true.mpr h), if_pos h]
  · rw [if_neg (fun g => h (less_true.mp g)), if_neg h]
/-- What the reference's Add leaves: the row (its own block, or a new one) behind the set. -/
def RAddQ (w : World) (base g : Nat) (v : Value) (ys : List S27) (w' : World) : Prop :=
  ∃ v', w'.heap[g]? = some (.cells #[v'] 42 (0, 0)) ∧ Kd.R k27 27 w' base (fun _ => True) v' ys ∧ Kept w w' (fun k => k = g ∨ some k = v.ownBlock) ∧ Below base w w' ∧ (v'.ownBlock = v.ownBlock ∨ ∃ b, v'.ownBlock = some b ∧ w.heap.size ≤ b)
theorem radd_end {w w2 w3 : World} {base g : Nat} {v v3 : Value} {ys : List S27} (hs : w.heap[g]? = some (.cells #[v] 42 (0, 0))) (hbg : base ≤ g) (hB2 : Below w.heap.size w w2) (hne : some g ≠ v.ownBlock)
    (hR : Kd.R k27 27 w3 base (fun _ => True) v3 ys) (hB : Below base w2.drew w3) (hg : w2.drew.grownBy w3 v.ownBlock) (hat : v3.ownBlock = v.ownBlock ∨ ∃ b, v3.ownBlock = some b ∧ w2.drew.heap.size ≤ b) (hlt : ∀ k, v.ownBlock = some k → k < w.heap.size) :
    RAddQ w base g v ys (w3.setCell ⟨g, 0, none⟩ v3) := by
  have hb2 := blk_below hs hB2
  have hb3 : w3.heap[g]? = some (.cells #[v] 42 (0, 0)) := (hg.block g (blk_lt hb2) hne).trans hb2
  have hsz := hB2.size
  refine ⟨v3, one_setCell hb3, Kd.R_set hR hb3 (by decide) 0 v3, ?_, ?_, ?_⟩
  · have h1 : Kept w w2.drew (fun k => k = g ∨ some k = v.ownBlock) := (Kept.of_below hB2 _).drew
    exact (Kept.of_grown hg h1 (fun k hk => .inl (.inr hk.symm))).setCell (.inl (.inl rfl)) v3
  · have hbw : base ≤ w.heap.size := by have := blk_lt hs; omega
    exact ((below_drew (hB2.mono hbw)).trans hB).setCell hbg v3
  · rcases hat with h | ⟨b, h, hle⟩
    · exact .inl h
    · exact .inr ⟨b, h, Nat.le_trans hsz hle⟩
set_option maxHeartbeats 4000000 in
set_option maxRecDepth 100000 in
theorem radd16 (w : World) (base g : Nat) (A : Option Addr) (n c : Nat) (xs : List S27) (e : S27) (hs : w.heap[g]? = some (.cells #[.slice A n c] 42 (0, 0))) (hR : Kd.R k27 27 w base (fun _ => True) (.slice A n c) xs) (hbg : base ≤ g) (hl : xs.length ≤ 1000000) (he : e.f0 < e.f1) :
    Calls Try.prog 16 #[.pointer (some ⟨g, 0, none⟩), .agg #[.string e.f0, .string e.f1, .int .u64 e.f2]] w fun r w' => r = .returned (.int .i64 0) ∧ RAddQ w base g (.slice A n c) (xs ++ [e]) w' := by
  have hc := Aside0.mk check23
  have HS := Aside0.mk hs
  have HR := Aside0.mk hR
  have HE := Aside0.mk he
  have HBg := Aside0.mk hbg
  have HL := Aside0.mk hl
  clear hs hR he hbg hl
  go_enter Try.func16, Try.ntmps16
  go_wp2_with (first
    | ((with_reducible refine gate_dst (N := 3) rfl ?_); refine box_event ?hg (N := 3) ?hd (cs := #[.string e.f0, .string e.f1, .int .u64 e.f2]) (t := 27) ?hr ?_; (case hd => rfl); (case hg => rfl); (case hr => first | (go_simp; done) | (go_simp; rfl)); intro ge hge w1 hbox hb; have HB := Aside0.mk hb; have HX := Aside0.mk (show box27 w1 ge e from hbox); have hce := box_cells HX.out; have HG := Aside0.mk hge; clear hb hbox hge)
    | (go_at_call 23; refine (hc.out _ e).mono ?_; rintro r w2 ⟨rfl, hb1⟩; rw [if_pos HE.out]; clear hce; have HX2 := Aside0.mk (show box27 w2 ge e from blk_below HX.out hb1); have HB2 := Aside0.mk (below_then HB.out HB.out.size hb1); have hce := box_cells HX2.out; have hb2 := blk_below HS.out HB2.out; have hcs := cell_of_one hb2; clear hb1 hb2 HX HB))
  have HO := Aside0.mk (Kd.R_below HR.out HB2.out)
  have HBl := Aside0.mk (blk_below HS.out HB2.out)
  have HBs := Aside0.mk (show base ≤ w2.heap.size by have := blk_lt HBl.out; have := HBg.out; omega)
  have HNe := Aside0.mk (Kd.R_ne HO.out HBl.out (by decide))
  refine start_ (n := 11) (S := fun w' => w'.cell? ⟨g, 0, none⟩ = some (.slice A n c) ∧ w'.cell? ⟨ge, 0, none⟩ = some (.string e.f0) ∧ w'.cell? ⟨ge, 1, none⟩ = some (.string e.f1) ∧ w'.cell? ⟨ge, 2, none⟩ = some (.int .u64 e.f2)) (ds := [7, 10]) #[false, false, false, false, false, false, false, false, false, false, false] (by kernel_rfl) rfl rfl ⟨hcs, hce.1, hce.2.1, hce.2.2⟩ (fun hHeld => ?_)
  refine pure_ (i := 0) (N := some 8) (v := ?_) (a' := ?_) #[true, false, false, false, false, false, false, false, false, false, false] rfl rfl (by kernel_rfl) (fun _ _ _ h => h) (Or.inl ⟨by rfl, ?_⟩) ?_ ?_
  rotate_left
  · intro w'
    go_simp
    with_reducible rfl
  rotate_left
  · simp only [Act.put, List.setIfInBounds_toArray, List.set_cons_zero, List.set_cons_succ, i64_w, i32_w]
    rfl
  refine pure_ (i := 1) (N := some 9) (v := ?_) (a' := ?_) #[true, true, false, false, false, false, false, false, false, false, false] rfl rfl (by kernel_rfl) (fun _ _ _ h => h) (Or.inl ⟨by rfl, ?_⟩) ?_ ?_
  rotate_left
  · intro w'
    go_simp
    with_reducible rfl
  rotate_left
  · simp only [Act.put, List.setIfInBounds_toArray, List.set_cons_zero, List.set_cons_succ, i64_w, i32_w]
    rfl
  refine pure_ (i := 2) (N := some 10) (v := ?_) (a' := ?_) #[true, true, true, false, false, false, false, false, false, false, false] rfl rfl (by kernel_rfl) (fun _ _ _ h => h) (Or.inl ⟨by rfl, ?_⟩) ?_ ?_
  rotate_left
  · intro w'
    go_simp
    with_reducible rfl
  rotate_left
  · simp only [Act.put, List.setIfInBounds_toArray, List.set_cons_zero, List.set_cons_succ, i64_w, i32_w]
    rfl
  refine pure_ (i := 3) (N := some 11) (v := ?_) (a' := ?_) #[true, true, true, true, false, false, false, false, false, false, false] rfl rfl (by kernel_rfl) (fun _ _ _ h => h) (Or.inl ⟨by rfl, ?_⟩) ?_ ?_
  rotate_left
  · intro w'
    go_simp
    with_reducible rfl
  rotate_left
  · simp only [Act.put, List.setIfInBounds_toArray, List.set_cons_zero, List.set_cons_succ, i64_w, i32_w]
    rfl
  refine take_ (i := 4) (N := some 12) (v := ?_) (a' := ?_) #[true, true, true, true, true, false, false, false, false, false, false] rfl rfl (by kernel_rfl) (fun _ _ _ h => h) (Or.inl ⟨by rfl, ?_⟩) hHeld ?_ ?_
  rotate_left
  · rintro w' ⟨s0, s1, s2, s3⟩
    go_simp
    with_reducible rfl
  rotate_left
  · simp only [Act.put, List.setIfInBounds_toArray, List.set_cons_zero, List.set_cons_succ, i64_w, i32_w]
    rfl
  refine take_ (i := 5) (N := some 13) (v := ?_) (a' := ?_) #[true, true, true, true, true, true, false, false, false, false, false] rfl rfl (by kernel_rfl) (fun _ _ _ h => h) (Or.inl ⟨by rfl, ?_⟩) hHeld ?_ ?_
  rotate_left
  · rintro w' ⟨s0, s1, s2, s3⟩
    go_simp
    with_reducible rfl
  rotate_left
  · simp only [Act.put, List.setIfInBounds_toArray, List.set_cons_zero, List.set_cons_succ, i64_w, i32_w]
    rfl
  refine one_ (i := 6) (N := some 14) #[true, true, true, true, true, true, true, false, false, false, false] rfl rfl (by kernel_rfl) (by decide) (fun K hK => ?_)
  refine value_ (w1 := ?_) (v := ?_) (by rfl) rfl ?_ ?_
  rotate_left 2
  · go_simp
    constructor
    · rfl
    · rfl
  refine hK.out _ _ ⟨pw_cell_below (below_alloc (Below.refl _ _) _) hHeld.1, pw_cell_below (below_alloc (Below.refl _ _) _) hHeld.2.1, pw_cell_below (below_alloc (Below.refl _ _) _) hHeld.2.2.1, pw_cell_below (below_alloc (Below.refl _ _) _) hHeld.2.2.2⟩ (fun hHeld => ?_)
  clear hK K
  refine norm_ (a' := ?_) ?_ ?_
  rotate_left
  · show Act.put _ (some 14) _ = _
    simp only [Act.put, List.setIfInBounds_toArray, List.set_cons_zero, List.set_cons_succ, i64_w, i32_w]
    rfl
  refine last_ (i := 7) (N := some 15) #[true, true, true, true, true, true, true, true, false, false, false] rfl rfl (by kernel_rfl) (by decide) (fun K hK => ?_)
  refine Kd.R_append_step k27 base (by rfl) (.tmp 12) (.tmp 14) 22 27 _ 40 rfl Try.underlying22 info27 rfl (by decide) (by decide) (.slice A n c) xs e [.string e.f0, .string e.f1, .int .u64 e.f2] (fun _ => True) (fun _ => False) rfl rfl (k27_mkM _ _ _ e) (fun _ h => h.elim) (fun _ _ => trivial) (Kd.R_drew HO.out) (Below.refl _ _) HBs.out (by have := HL.out; omega) ?_
  intro v3 w3 hR3 hB3 hg3 hat3
  obtain ⟨A3, m3, c3, e3⟩ := R_slice3 hR3
  subst e3
  have hb3 : w3.heap[g]? = some (.cells #[.slice A n c] 42 (0, 0)) := (hg3.block g (blk_lt HBl.out) HNe.out).trans HBl.out
  have hcg := cell_of_one hb3
  have hfg := free_of_one hb3
  refine hK.out _ _ ?_
  clear hK K
  refine norm_ (a' := ?_) ?_ ?_
  rotate_left
  · show Act.put _ (some 15) _ = _
    simp only [Act.put, List.setIfInBounds_toArray, List.set_cons_zero, List.set_cons_succ, i64_w, i32_w]
    rfl
  refine pure_ (i := 8) (N := some 16) (v := ?_) (a' := ?_) #[true, true, true, true, true, true, true, true, true, false, false] rfl rfl (by kernel_rfl) (fun _ _ _ h => h) (Or.inl ⟨by rfl, ?_⟩) ?_ ?_
  rotate_left
  · intro w'
    go_simp
    with_reducible rfl
  rotate_left
  · simp only [Act.put, List.setIfInBounds_toArray, List.set_cons_zero, List.set_cons_succ, i64_w, i32_w]
    rfl
  refine pure_ (i := 9) (N := some 17) (v := ?_) (a' := ?_) #[true, true, true, true, true, true, true, true, true, true, false] rfl rfl (by kernel_rfl) (fun _ _ _ h => h) (Or.inl ⟨by rfl, ?_⟩) ?_ ?_
  rotate_left
  · intro w'
    go_simp
    with_reducible rfl
  rotate_left
  · simp only [Act.put, List.setIfInBounds_toArray, List.set_cons_zero, List.set_cons_succ, i64_w, i32_w]
    rfl
  refine last_ (i := 10) (N := none) #[true, true, true, true, true, true, true, true, true, true, true] rfl rfl (by kernel_rfl) (by decide) (fun K hK => ?_)
  refine skip_ (w1 := ?_) (by rfl) rfl ?_ ?_
  rotate_left
  · go_simp
    rfl
  refine hK.out _ _ ?_
  clear hK K
  refine done_ (by kernel_rfl) ?_
  have HQ := Aside0.mk (radd_end HS.out HBg.out HB2.out HNe.out hR3 hB3 hg3 hat3 (fun k hk => Kd.R_lt HR.out k hk))
  clear hHeld hcg hfg hb3 hat3 hR3 hg3 hB3 hcs hce
  go_wp2
  go_ret
  exact ⟨rfl, HQ.out⟩
set_option maxHeartbeats 4000000 in
theorem radd16n (w : World) (p : Value) (e : S27) (he : ¬ e.f0 < e.f1) : Calls Try.prog 16 #[p, .agg #[.string e.f0, .string e.f1, .int .u64 e.f2]] w fun r w' => r = .returned (.int .i64 1) ∧ Below w.heap.size w w' := by
  have hc := Aside0.mk check23
  have HE := Aside0.mk he
  clear he
  go_enter Try.func16, Try.ntmps16
  go_wp2_with (first
    | ((with_reducible refine gate_dst (N := 3) rfl ?_); refine box_event ?hg (N := 3) ?hd (cs := #[.string e.f0, .string e.f1, .int .u64 e.f2]) (t := 27) ?hr ?_; (case hd => rfl); (case hg => rfl); (case hr => first | (go_simp; done) | (go_simp; rfl)); intro ge hge w1 hbox hb; have HB := Aside0.mk hb; have HX := Aside0.mk (show box27 w1 ge e from hbox); have hce := box_cells HX.out; clear hb hbox hge)
    | (go_at_call 23; refine (hc.out _ e).mono ?_; rintro r w2 ⟨rfl, hb1⟩; rw [if_neg HE.out]; clear hce; have HB2 := Aside0.mk (below_then HB.out HB.out.size hb1); clear hb1 HX HB))
  go_ret
  exact ⟨rfl, HB2.out⟩
theorem over44 (w : World) (e : S27) (key : ByteArray) : Calls Try.prog 44 #[.agg #[.string e.f0, .string e.f1, .int .u64 e.f2], .string key] w fun r w' => r = .returned (.bool (decide (e.f0 ≤ key ∧ key < e.f1))) ∧ Below w.heap.size w w' := by
  refine flintref12_over.calls e.f0 e.f1 e.f2 key _ w ?_
  unfold flintref12_over.f
  by_cases h : key < e.f0
  · rw [if_pos (less_true.mpr h), decide_eq_false (by grind)]
  · rw [if_neg (fun g => h (less_true.mp g))]
    congr 1
    rw [Bool.eq_iff_iff, less_true, decide_eq_true_eq]
    grind
set_option maxHeartbeats 4000000 in
set_option maxRecDepth 100000 in
theorem rhas28 (w : World) (g : Nat) (A : Option Addr) (c : Nat) (xs : List S27) (key : ByteArray) (seq : Int) (hs : w.heap[g]? = some (.cells #[.slice A xs.length c] 42 (0, 0))) (hC : Kd.C k27 w A xs.length xs) (hl : xs.length ≤ 1000000) :
    Calls Try.prog 28 #[.pointer (some ⟨g, 0, none⟩), .string key, .int .u64 seq] w fun r w' => r = .returned (.bool (hasB xs key seq)) ∧ Below w.heap.size w w' := by
  have hov := Aside0.mk over44
  obtain ⟨n, hn⟩ : ∃ n, xs.length = n := ⟨_, rfl⟩
  rw [hn] at hs hC hl
  have HC := Aside0.mk hC
  have HS := Aside0.mk hs
  have HN := Aside0.mk hn
  clear hC hs hn
  go_enter Try.func28, Try.ntmps28
  go_wp2
  go_loopw [7] (fun i W => ∃ k : Nat, k ≤ n ∧ i = .int .i64 k ∧ Aside0 (∀ j : Nat, j < k → inB key seq (rd_T27 xs j) = false) ∧ Aside0 (Below w.heap.size w W)) (fun i _ => n - (intOf i).toNat)
  case atStart => exact ⟨0, Nat.zero_le _, rfl, ⟨fun j hj => absurd hj (Nat.not_lt_zero _)⟩, ⟨Below.refl _ _⟩⟩
  case round =>
    obtain ⟨k, hk, rfl, HA, HB⟩ := hrel
    have hcg := cell_of_one (blk_below HS.out HB.out)
    by_cases hkn : k < n
    · clear hk
      obtain ⟨x, hx⟩ : ∃ x, rd_T27 xs (k : Int) = x := ⟨_, rfl⟩
      have hC := Kd.C_below HC.out HB.out
      obtain ⟨ad, eA, x0, x1, x2⟩ := at_T27 hC (k : Int) (by omega) (by omega)
      subst eA
      rw [hx] at x0 x1 x2
      rw [Int.toNat_natCast] at x0 x1 x2
      have HX := Aside0.mk hx
      clear hx hC
      by_cases ho : x.f0 ≤ key ∧ key < x.f1
      · have HO := Aside0.mk (decide_eq_true ho)
        have HOo := Aside0.mk ho
        clear ho
        by_cases hq : seq ≤ x.f2
        · have HI := Aside0.mk (show hasB xs key seq = true from hasB_true.mpr ⟨x, by have h := rd_mem (xs := xs) (i := k) (by rw [HN.out]; exact hkn); rw [HX.out] at h; exact h, HOo.out.1, HOo.out.2, hq⟩)
          go_wp2_with (go_at_call 44; refine (hov.out _ x key).mono ?_; rintro r w2 ⟨rfl, hb⟩; rw [HO.out]; have hcg2 := cell_of_one (blk_below HS.out (below_then HB.out HB.out.size hb)); have y0 := pw_cell_below hb x0; have y1 := pw_cell_below hb x1; have y2 := pw_cell_below hb x2; clear hcg x0 x1 x2; replace HB := Aside0.mk (below_then HB.out HB.out.size hb); clear hb)
          go_ret
          exact ⟨by rw [HI.out]; rfl, HB.out⟩
        · have HI := Aside0.mk (show inB key seq x = false from decide_eq_false (fun h => hq h.2.2))
          have hqd : decide (seq ≤ x.f2) = false := decide_eq_false hq
          go_wp2_with (go_at_call 44; refine (hov.out _ x key).mono ?_; rintro r w2 ⟨rfl, hb⟩; rw [HO.out]; have hcg2 := cell_of_one (blk_below HS.out (below_then HB.out HB.out.size hb)); have y0 := pw_cell_below hb x0; have y1 := pw_cell_below hb x1; have y2 := pw_cell_below hb x2; clear hcg x0 x1 x2; replace HB := Aside0.mk (below_then HB.out HB.out.size hb); clear hb)
          go_roundw
          case measure => simp [intOf]; omega
          case rel =>
            refine ⟨k + 1, by omega, by go_num, ⟨fun j hj => ?_⟩, HB⟩
            rcases Nat.lt_or_ge j k with h | h
            · exact HA.out j h
            · obtain rfl : j = k := by omega
              rw [HX.out]; exact HI.out
      · have HO := Aside0.mk (decide_eq_false ho)
        have HI := Aside0.mk (show inB key seq x = false from decide_eq_false (fun h => ho ⟨h.1, h.2.1⟩))
        clear ho
        go_wp2_with (go_at_call 44; refine (hov.out _ x key).mono ?_; rintro r w2 ⟨rfl, hb⟩; rw [HO.out]; clear hcg x0 x1 x2; replace HB := Aside0.mk (below_then HB.out HB.out.size hb); clear hb)
        go_roundw
        case measure => simp [intOf]; omega
        case rel =>
          refine ⟨k + 1, by omega, by go_num, ⟨fun j hj => ?_⟩, HB⟩
          rcases Nat.lt_or_ge j k with h | h
          · exact HA.out j h
          · obtain rfl : j = k := by omega
            rw [HX.out]; exact HI.out
    · obtain rfl : k = n := by omega
      have HI := Aside0.mk (show hasB xs key seq = false by
        rw [hasB, List.any_eq_false]
        intro x hx
        obtain ⟨i, hi, rfl⟩ := mem_rd hx
        rw [HA.out i (by rw [← HN.out]; exact hi)]
        decide)
      go_wp2
      go_ret
      exact ⟨by rw [HI.out]; rfl, HB.out⟩
end Go.Proofs.Ytpfkfnphjbgohaa.El
