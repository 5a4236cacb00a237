/-
  flintlaw9.SegWrites.
-/
import Derived.Test.YtjnicooboiijgaaMWb
set_option linter.unusedVariables false
set_option linter.unusedSimpArgs false
namespace Go.Proofs.Ytjnicooboiijgaa.Sg
open Go.RowKit Go.Proofs.YtjnicooboiijgaaW.PrintWords Go.Proofs.YtjnicooboiijgaaW.PrintLast Go.Proofs.YtjnicooboiijgaaW.PrintMore Go.Proofs.Ytjnicooboiijgaa.PSg Go.Proofs.Ytjnicooboiijgaa.Gf Go.Proofs.Ytjnicooboiijgaa.Rs
theorem room_six {s : Nat} (h : s ≤ 600) : roomN s ≤ 600 := by unfold roomN; split <;> omega
theorem blob_bytes {l : List S41} (hw : ∀ x ∈ l, ∀ z ∈ x.f0, (Lit.int .u8 z).wf = true) (i : Nat) : bytes (rd_T41 l (i : Int)).f0 = true := by
  unfold rd_T41
  rw [Int.toNat_natCast, List.getD_eq_getElem?_getD]
  rcases h : l[i]? with _ | x
  · rfl
  · exact bytes_of (hw x (List.mem_of_getElem? h))
def writes21.T21 : Bool × List (List Nat × List Nat) := (true, [([], []), ([0], [0]), ([], []), ([2], [2]), ([3], [3]), ([4], [4]), ([5], [5]), ([1, 6], [1, 6]), ([7, 1], [7]), ([8], [8]), ([9, 8, 8], [8, 9]), ([8], [8]), ([11, 10, 8], [8, 11]), ([10, 12, 8], [8, 10, 12]), ([8, 13], [8, 13])])
def writes21.B21 : List Nat := [0, 1, 0, 4, 12, 28, 60, 127, 255, 511, 1023, 511, 4095, 8191, 16383]
theorem writes21.tab21 : rtab .any (opsOf Try.f3 21) = writes21.T21 := by kernel_rfl
theorem writes21.bits21 : waitsOk writes21.T21.2 writes21.B21 = true := by kernel_rfl
set_option maxHeartbeats 16000000 in
set_option maxRecDepth 100000 in
theorem writes3_on (w : World) {k p s : Nat} (hf : Fits k p s) (seg : Nat) (hseg : seg < 18446744073709551616) {l : List S41} (hw : ∀ x ∈ l, x.f0.length ≤ 1048576) (hb : ∀ x ∈ l, ∀ z ∈ x.f0, (Lit.int .u8 z).wf = true) (hl : l.length ≤ 1048576) {A : Option Addr} {nl c : Nat} (hn : l.length = nl) (hC : Kd.C k41 w A l.length l) (hc : l.length ≤ c) (hs : s ≤ 600) (hk : k ≤ 12) (h200 : nl ≤ 200) (h20 : sumA l nl ≤ 20000) : Calls Try.prog 3 #[.agg #[.int .i64 k, .int .i64 p, .int .i64 s], .int .u64 seg, .slice A nl c] w fun e w' => e = .returned (.bool true) ∧ Below w.heap.size w w' := by
  have HK := Aside0.mk (fun (W : World) => known8 W)
  have HH := Aside0.mk (heap_alloc_last w (.cells #[.int .i64 k, .int .i64 p, .int .i64 s] 23))
  have HB := Aside0.mk (below_alloc (Below.refl w.heap.size w) (.cells #[.int .i64 k, .int .i64 p, .int .i64 s] 23))
  have HS := Aside0.mk (fun (W : World) => small9_yes W hf true (by simp [hs, hk]))
  have HF := Aside0.mk (fun (W : World) (hW : Below w.heap.size w W) => few10 W hw hl hn (Kd.C_below hC hW) hc true (by rw [eq_comm, decide_eq_true_eq]; exact ⟨h200, h20⟩))
  have HO := Aside0.mk (fun (W : World) => of13 W k p s)
  have HR := Aside0.mk (fun (W : World) => rcheck12_yes W hf)
  have HNW := Aside0.mk (fun (W : World) => new11_ok W k p s seg hf)
  have hrp := room_pos hf.s1 hf.s2
  have hrl := room_six hs
  obtain ⟨N, hN⟩ : ∃ N, k * roomN s = N := ⟨_, rfl⟩
  have hNp : 0 < N := by rw [← hN]; exact Nat.mul_pos (by have := hf.k1; omega) (by omega)
  have hN9 : N ≤ 7200 := by rw [← hN]; exact Nat.mul_le_mul hk hrl
  have HFI := Aside0.mk hf
  have HNN := Aside0.mk hN
  have HBB := Aside0.mk hb
  have HWW := Aside0.mk hw
  have HCC := Aside0.mk hC
  have HNL := Aside0.mk hn
  clear hf hw hb hl hC hc hs hk hN hrp hrl hn
  go_enter Try.func3, Try.ntmps3
  go_wp2_with (first
    | (go_at_call 8; refine Calls.mono (HK.out _) ?_; rintro e w2 ⟨rfl, hb⟩; replace HH := Aside0.mk ((hb.block _ (heap_lt HH.out)).trans HH.out); replace HB := Aside0.mk (below_then HB.out HB.out.size hb); have y0 := blkc HH.out 0 rfl; have y1 := blkc HH.out 1 rfl; have y2 := blkc HH.out 2 rfl; clear hb)
    | (go_at_call 9; refine Calls.mono (HS.out _) ?_; rintro e w2 ⟨rfl, hb⟩; replace HH := Aside0.mk ((hb.block _ (heap_lt HH.out)).trans HH.out); replace HB := Aside0.mk (below_then HB.out HB.out.size hb); have y0 := blkc HH.out 0 rfl; have y1 := blkc HH.out 1 rfl; have y2 := blkc HH.out 2 rfl; clear hb)
    | (go_at_call 10; refine Calls.mono (HF.out _ HB.out) ?_; rintro e w2 ⟨rfl, hb⟩; replace HH := Aside0.mk ((hb.block _ (heap_lt HH.out)).trans HH.out); replace HB := Aside0.mk (below_then HB.out HB.out.size hb); have y0 := blkc HH.out 0 rfl; have y1 := blkc HH.out 1 rfl; have y2 := blkc HH.out 2 rfl; clear hb)
    | (go_at_call 11; refine Calls.mono (HNW.out _) ?_; rintro e w2 ⟨g, rfl, hg, hW, hb⟩; have HG := Aside0.mk (show w.heap.size ≤ g from Nat.le_trans HB.out.size hg); replace HH := Aside0.mk ((hb.block _ (heap_lt HH.out)).trans HH.out); replace HB := Aside0.mk (below_then HB.out HB.out.size hb); have HW := Aside0.mk hW; have y0 := blkc HH.out 0 rfl; have y1 := blkc HH.out 1 rfl; have y2 := blkc HH.out 2 rfl; clear hb hg hW)
    | (go_at_call 13; refine Calls.mono (HO.out _) ?_; rintro e w2 ⟨rfl, hb⟩; replace HH := Aside0.mk ((hb.block _ (heap_lt HH.out)).trans HH.out); replace HB := Aside0.mk (below_then HB.out HB.out.size hb); replace HW := Aside0.mk (HW.out.below hb); have y0 := blkc HH.out 0 rfl; have y1 := blkc HH.out 1 rfl; have y2 := blkc HH.out 2 rfl; clear hb)
    | (go_at_call 12; refine Calls.mono (HR.out _) ?_; rintro e w2 ⟨rfl, hb⟩; replace HH := Aside0.mk ((hb.block _ (heap_lt HH.out)).trans HH.out); replace HB := Aside0.mk (below_then HB.out HB.out.size hb); replace HW := Aside0.mk (HW.out.below hb); have y0 := blkc HH.out 0 rfl; have y1 := blkc HH.out 1 rfl; have y2 := blkc HH.out 2 rfl; clear hb))
  have hba := below_alloc (Below.refl w2.heap.size w2) (.cells #[.int .i64 (k : Nat), .int .i64 (p : Nat), .int .i64 (s : Nat), .int .u64 (seg : Nat), .slice none 0 0, .int .i64 0] 39)
  have HT0 := Aside0.mk (show Tw w (w2.alloc (.cells #[.int .i64 (k : Nat), .int .i64 (p : Nat), .int .i64 (s : Nat), .int .u64 (seg : Nat), .slice none 0 0, .int .i64 0] 39)) g w2.heap.size k p s seg N 0 [] none 0 0 none 0 from by
    refine ⟨HW.out.below hba, (by rw [List.drop_nil]; exact Kd.R_nil _ _ _ _ _), ?_, Kd.R_nil _ _ _ _ _, below_then HB.out HB.out.size hba, HG.out, HB.out.size, fun e => by have := heap_lt HW.out; omega⟩
    have := heap_alloc_last w2 (.cells #[.int .i64 (k : Nat), .int .i64 (p : Nat), .int .i64 (s : Nat), .int .u64 (seg : Nat), .slice none 0 0, .int .i64 0] 39)
    unfold Rw
    rw [Nat.zero_div]
    exact this)
  obtain ⟨g2, hg2⟩ : ∃ g2, w2.heap.size = g2 := ⟨_, rfl⟩
  rw [hg2] at HT0 ⊢
  obtain ⟨W2, hW2⟩ : ∃ W2, w2.alloc (.cells #[.int .i64 (k : Nat), .int .i64 (p : Nat), .int .i64 (s : Nat), .int .u64 (seg : Nat), .slice none 0 0, .int .i64 0] 39) = W2 := ⟨_, rfl⟩
  rw [hW2] at HT0 ⊢
  clear hW2 hg2 hba HW HH HB HG y0 y1 y2 HK HS HF HO HR HNW
  go_loopw [10] (fun iv W => ∃ (i n nr cr c2 : Nat) (Ar A2 : Option Addr) (S : List Int), i ≤ nl ∧ iv = .int .i64 (i : Nat) ∧ Aside0 (n ≤ N * (p - 1)) ∧ Aside0 (n ≤ sumA l i + i * 7200) ∧ Aside0 (bytes S = true) ∧ Aside0 (Tw w W g g2 k p s seg N n S Ar nr cr A2 c2)) (fun iv _ => nl - (intOf iv).toNat)
  case atStart => exact ⟨0, 0, 0, 0, 0, none, none, [], Nat.zero_le _, by simp, ⟨Nat.zero_le _⟩, ⟨Nat.zero_le _⟩, ⟨rfl⟩, HT0⟩
  case round =>
    obtain ⟨i, n, nr, cr, c2, Ar, A2, S, hi, rfl, HNM, HNS, HXS, HT⟩ := hrel
    by_cases hin : i < nl
    · have t1 : decide ((i : Int) < (nl : Int)) = true := decide_eq_true (by omega)
      have t2 : decide (i < nl) = true := decide_eq_true hin
      obtain ⟨ad, A0, c0, ea, hx0, hx1, hc0, hA0⟩ := at_T41 (by have := HCC.out; rw [HNL.out] at this; exact this) (i : Int) (by omega) (by omega)
      subst ea
      rw [Int.toNat_natCast] at hx0 hx1
      have HX0 := Aside0.mk hx0
      have HA0 := Aside0.mk hA0
      have HC0 := Aside0.mk hc0
      have x1 := pw_cell_below HT.out.below hx1
      have p1 := eq_true (show (0 : Int) ≤ (i : Int) by omega)
      have p3 := eq_true (show (i : Int) < (nl : Int) by omega)
      clear hx0 hx1 hA0 hc0
      obtain ⟨pad, hpad⟩ : ∃ pad, (rd_T41 l (i : Int)).f1 = pad := ⟨_, rfl⟩
      obtain ⟨bl, hbl⟩ : ∃ bl, (rd_T41 l (i : Int)).f0 = bl := ⟨_, rfl⟩
      have HBL := Aside0.mk (show bytes bl = true by rw [← hbl]; exact blob_bytes HBB.out i)
      have HSA := Aside0.mk (show sumA l (i + 1) = sumA l i + bl.length by rw [← hbl]; rfl)
      have hmono := sumA_mono l (show i + 1 ≤ nl by omega)
      rw [hpad] at x1
      rw [hbl] at HX0 HA0 HC0
      clear hpad hbl
      rcases pad with _ | _
      · have x0 := pw_cell_below HT.out.below HX0.out
        have hbl9 : bl.length ≤ 20000 := by have := HSA.out; omega
        by_cases hz : bl.length = 0
        · rw [hz] at x0 HX0
          have HT5 := HT
          have HA5 := Aside0.mk (fun (W : World) => add17_nil W g A0 c0)
          have HA6 := Aside0.mk (fun (W : World) => radd18_nil W g2 A0 c0)
          have HR14 := Aside0.mk (fun (W : World) => rows14 W [] (by decide) (fun i hi => absurd hi (Nat.not_lt_zero i)) (Told.nil W) (Told.nil W))
          have HML := HNM
          have HMS := Aside0.mk (show n ≤ sumA l (i + 1) + (i + 1) * 7200 from by have := HNS.out; have := HSA.out; omega)
          have HXF := HXS
          clear HXS HNM HNS HA0 HC0 hmono HT hbl9 hz
          go_wp2_with (first
            | (go_at_call 17; refine Calls.mono (HA5.out _) ?_; rintro e w5 ⟨rfl, hb⟩; replace HT5 := Aside0.mk (HT5.out.move hb); have x05 := pw_cell_below HT5.out.below HX0.out; clear hb)
            | (go_at_call 18; refine Calls.mono (HA6.out _) ?_; rintro e w6 ⟨rfl, hb⟩; replace HT5 := Aside0.mk (HT5.out.move hb); clear hb)
            | (go_at_call 14; refine Calls.mono (HR14.out _) ?_; rintro e w7 ⟨rfl, hb⟩; have HT7 := Aside0.mk (HT5.out.move hb); clear hb HT5))
          obtain ⟨M2, hM2⟩ : ∃ M2, n = M2 := ⟨_, rfl⟩
          obtain ⟨S2, hS2⟩ : ∃ S2, S = S2 := ⟨_, rfl⟩
          obtain ⟨Ar2, hAr2⟩ : ∃ Ar2, Ar = Ar2 := ⟨_, rfl⟩
          obtain ⟨nr2, hnr2⟩ : ∃ nr2, nr = nr2 := ⟨_, rfl⟩
          obtain ⟨cr2, hcr2⟩ : ∃ cr2, cr = cr2 := ⟨_, rfl⟩
          obtain ⟨A3, hA3⟩ : ∃ A3, A2 = A3 := ⟨_, rfl⟩
          obtain ⟨c3, hc3⟩ : ∃ c3, c2 = c3 := ⟨_, rfl⟩
          rw [hM2] at HML HMS HT7
          rw [hS2] at HXF HT7
          rw [hAr2, hnr2, hcr2, hA3, hc3] at HT7
          clear hM2 hS2 hAr2 hnr2 hcr2 hA3 hc3
          have HLP := Aside0.mk (fun (W : World) (r : Value) (h : Wr W g k p s seg M2 r) => show Calls Try.prog 20 #[.pointer (some ⟨g, 0, none⟩)] W fun e w' => e = .returned (.int .i64 (N * (p - 1) - M2 : Nat)) ∧ Below W.heap.size W w' from by have := left20 W g k p s seg M2 r HFI.out h (by rw [HNN.out]; exact HML.out); rw [HNN.out] at this; exact this)
          have HLR := Aside0.mk (fun (W : World) (t c : Nat) (A : Option Addr) (h : Rw W g2 k p s seg (.slice A M2 c) t) => show Calls Try.prog 21 #[.pointer (some ⟨g2, 0, none⟩)] W fun e w' => e = .returned (.int .i64 (N * (p - 1) - M2 : Nat)) ∧ Below W.heap.size W w' from by have := rleft21 W g2 k p s seg t M2 c A HFI.out h (by rw [HNN.out]; exact HML.out); rw [HNN.out] at this; exact this)
          obtain ⟨D, hD⟩ : ∃ D, N * (p - 1) - M2 = D := ⟨_, rfl⟩
          rw [hD] at HLP HLR
          clear hD
          have x4 := HT7.out.rw_.cells.2.2.2.2.1
          refine start_ (n := 15) (S := fun w' => Tw w w' g g2 k p s seg N M2 S2 Ar2 nr2 cr2 A3 c3 ∧ w'.cell? ⟨g2, 4, none⟩ = some (.slice A3 M2 c3)) (ds := []) #[false, false, false, false, false, false, false, false, false, false, false, false, false, false, false] (by kernel_rfl) rfl rfl ⟨HT7.out.move (below_drew (Below.refl _ _)), x4⟩ (fun hHeld => ?_)
          refine with_tabW writes21.tab21 writes21.bits21 (fun HT_ HW_ => ?_)
          refine pure_ (i := 0) (N := some 105) (v := ?_) (a' := ?_) #[true, false, false, false, false, false, false, false, false, false, false, false, false, false, false] rfl rfl (any_of HT_.out (by kernel_rfl)) (fun _ _ _ h => h) (Or.inl ⟨by rfl, ?_⟩) ?_ ?_
          rotate_left
          · intro w'
            go_simp
            with_reducible rfl
          rotate_left
          · simp only [Act.put, List.setIfInBounds_toArray, List.set_cons_zero, List.set_cons_succ, i64_w, i32_w]
            rfl
          refine pure_ (i := 2) (N := some 107) (v := ?_) (a' := ?_) #[true, false, true, false, false, false, false, false, false, false, false, false, false, false, false] rfl rfl (any_of HT_.out (by kernel_rfl)) (fun _ _ _ h => h) (Or.inl ⟨by rfl, ?_⟩) ?_ ?_
          rotate_left
          · intro w'
            go_simp
            with_reducible rfl
          rotate_left
          · simp only [Act.put, List.setIfInBounds_toArray, List.set_cons_zero, List.set_cons_succ, i64_w, i32_w]
            rfl
          refine pure_ (i := 3) (N := some 108) (v := ?_) (a' := ?_) #[true, false, true, true, false, false, false, false, false, false, false, false, false, false, false] rfl rfl (any_of HT_.out (by kernel_rfl)) (fun _ _ _ h => h) (Or.inl ⟨by rfl, ?_⟩) ?_ ?_
          rotate_left
          · intro w'
            go_simp
            with_reducible rfl
          rotate_left
          · simp only [Act.put, List.setIfInBounds_toArray, List.set_cons_zero, List.set_cons_succ, i64_w, i32_w]
            rfl
          refine pure_ (i := 4) (N := some 109) (v := ?_) (a' := ?_) #[true, false, true, true, true, false, false, false, false, false, false, false, false, false, false] rfl rfl (any_of HT_.out (by kernel_rfl)) (fun _ _ _ h => h) (Or.inl ⟨by rfl, ?_⟩) ?_ ?_
          rotate_left
          · intro w'
            go_simp
            with_reducible rfl
          rotate_left
          · simp only [Act.put, List.setIfInBounds_toArray, List.set_cons_zero, List.set_cons_succ, i64_w, i32_w]
            rfl
          refine take_ (i := 5) (N := some 110) (v := ?_) (a' := ?_) #[true, false, true, true, true, true, false, false, false, false, false, false, false, false, false] rfl rfl (take_ofW HT_.out HW_.out (by kernel_rfl)) (fun _ _ _ h => h) (Or.inl ⟨by rfl, ?_⟩) hHeld ?_ ?_
          rotate_left
          · rintro w' ⟨s0, s1⟩
            go_simp
            with_reducible rfl
          rotate_left
          · simp only [Act.put, List.setIfInBounds_toArray, List.set_cons_zero, List.set_cons_succ, i64_w, i32_w]
            rfl
          refine pure_ (i := 6) (N := some 111) (v := ?_) (a' := ?_) #[true, false, true, true, true, true, true, false, false, false, false, false, false, false, false] rfl rfl (any_of HT_.out (by kernel_rfl)) (fun _ _ _ h => h) (Or.inl ⟨by rfl, ?_⟩) ?_ ?_
          rotate_left
          · intro w'
            go_simp
            with_reducible rfl
          rotate_left
          · simp only [Act.put, List.setIfInBounds_toArray, List.set_cons_zero, List.set_cons_succ, i64_w, i32_w]
            rfl
          refine one_ (i := 1) (N := some 106) #[true, true, true, true, true, true, true, false, false, false, false, false, false, false, false] rfl rfl (one_of HT_.out (by kernel_rfl)) (by decide) (fun K hK => ?_)
          refine goes_ Try.func19 (by kernel_rfl) rfl #[.pointer (some ⟨g, 0, none⟩)] (by rfl) rfl rfl (by simp only [List.map_toArray, List.map_cons, List.map_nil]; rfl) ?_
          refine Calls.mono (size19 _ g k p s seg M2 _ hHeld.1.wr) ?_
          rintro e w8 ⟨rfl, hb⟩
          refine ⟨_, rfl, ?_⟩
          refine hK.out _ _ ⟨hHeld.1.move hb, (hHeld.1.move hb).rw_.cells.2.2.2.2.1⟩ (fun hHeld => ?_)
          clear hK K
          refine norm_ (a' := ?_) ?_ ?_
          rotate_left
          · show Act.put _ (some 106) _ = _
            simp only [Act.put, List.setIfInBounds_toArray, List.set_cons_zero, List.set_cons_succ, i64_w, i32_w]
            rfl
          refine pure_ (i := 7) (N := some 112) (v := ?_) (a' := ?_) #[true, true, true, true, true, true, true, true, false, false, false, false, false, false, false] rfl rfl (any_of HT_.out (by kernel_rfl)) (fun _ _ _ h => h) (Or.inl ⟨by rfl, ?_⟩) ?_ ?_
          rotate_left
          · intro w'
            go_simp
            with_reducible rfl
          rotate_left
          · simp only [Act.put, List.setIfInBounds_toArray, List.set_cons_zero, List.set_cons_succ, i64_w, i32_w]
            rfl
          refine pure_ (i := 8) (N := some 113) (v := ?_) (a' := ?_) #[true, true, true, true, true, true, true, true, true, false, false, false, false, false, false] rfl rfl (any_of HT_.out (by kernel_rfl)) (fun _ _ _ h => h) (Or.inl ⟨by rfl, ?_⟩) ?_ ?_
          rotate_left
          · intro w'
            go_simp
            with_reducible rfl
          rotate_left
          · simp only [Act.put, List.setIfInBounds_toArray, List.set_cons_zero, List.set_cons_succ, i64_w, i32_w]
            rfl
          refine pure_ (i := 9) (N := some 114) (v := ?_) (a' := ?_) #[true, true, true, true, true, true, true, true, true, true, false, false, false, false, false] rfl rfl (any_of HT_.out (by kernel_rfl)) (fun _ _ _ h => h) (Or.inl ⟨by rfl, ?_⟩) ?_ ?_
          rotate_left
          · intro w'
            go_simp
            with_reducible rfl
          rotate_left
          · simp only [Act.put, List.setIfInBounds_toArray, List.set_cons_zero, List.set_cons_succ, i64_w, i32_w]
            rfl
          refine pure_ (i := 11) (N := some 116) (v := ?_) (a' := ?_) #[true, true, true, true, true, true, true, true, true, true, false, true, false, false, false] rfl rfl (any_of HT_.out (by kernel_rfl)) (fun _ _ _ h => h) (Or.inl ⟨by rfl, ?_⟩) ?_ ?_
          rotate_left
          · intro w'
            go_simp
            with_reducible rfl
          rotate_left
          · simp only [Act.put, List.setIfInBounds_toArray, List.set_cons_zero, List.set_cons_succ, i64_w, i32_w]
            rfl
          refine one_ (i := 10) (N := some 115) #[true, true, true, true, true, true, true, true, true, true, true, true, false, false, false] rfl rfl (one_of HT_.out (by kernel_rfl)) (by decide) (fun K hK => ?_)
          refine goes_ Try.func20 (by kernel_rfl) rfl #[.pointer (some ⟨g, 0, none⟩)] (by rfl) rfl rfl (by simp only [List.map_toArray, List.map_cons, List.map_nil]; rfl) ?_
          refine Calls.mono (HLP.out _ _ hHeld.1.wr) ?_
          rintro e w9 ⟨rfl, hb⟩
          refine ⟨_, rfl, ?_⟩
          refine hK.out _ _ ⟨hHeld.1.move hb, (hHeld.1.move hb).rw_.cells.2.2.2.2.1⟩ (fun hHeld => ?_)
          clear hK K
          refine norm_ (a' := ?_) ?_ ?_
          rotate_left
          · show Act.put _ (some 115) _ = _
            simp only [Act.put, List.setIfInBounds_toArray, List.set_cons_zero, List.set_cons_succ, i64_w, i32_w]
            rfl
          refine one_ (i := 12) (N := some 117) #[true, true, true, true, true, true, true, true, true, true, true, true, true, false, false] rfl rfl (one_of HT_.out (by kernel_rfl)) (by decide) (fun K hK => ?_)
          refine goes_ Try.func21 (by kernel_rfl) rfl #[.pointer (some ⟨g2, 0, none⟩)] (by rfl) rfl rfl (by simp only [List.map_toArray, List.map_cons, List.map_nil]; rfl) ?_
          refine Calls.mono (HLR.out _ _ _ _ hHeld.1.rw_) ?_
          rintro e w10 ⟨rfl, hb⟩
          refine ⟨_, rfl, ?_⟩
          refine hK.out _ _ ⟨hHeld.1.move hb, (hHeld.1.move hb).rw_.cells.2.2.2.2.1⟩ (fun hHeld => ?_)
          clear hK K
          refine norm_ (a' := ?_) ?_ ?_
          rotate_left
          · show Act.put _ (some 117) _ = _
            simp only [Act.put, List.setIfInBounds_toArray, List.set_cons_zero, List.set_cons_succ, i64_w, i32_w]
            rfl
          refine pure_ (i := 13) (N := some 118) (v := ?_) (a' := ?_) #[true, true, true, true, true, true, true, true, true, true, true, true, true, true, false] rfl rfl (any_of HT_.out (by kernel_rfl)) (fun _ _ _ h => h) (Or.inl ⟨by rfl, ?_⟩) ?_ ?_
          rotate_left
          · intro w'
            go_simp
            with_reducible rfl
          rotate_left
          · simp only [Act.put, List.setIfInBounds_toArray, List.set_cons_zero, List.set_cons_succ, i64_w, i32_w]
            rfl
          refine pure_ (i := 14) (N := some 119) (v := ?_) (a' := ?_) #[true, true, true, true, true, true, true, true, true, true, true, true, true, true, true] rfl rfl (any_of HT_.out (by kernel_rfl)) (fun _ _ _ h => h) (Or.inl ⟨by rfl, ?_⟩) ?_ ?_
          rotate_left
          · intro w'
            go_simp
            with_reducible rfl
          rotate_left
          · simp only [Act.put, List.setIfInBounds_toArray, List.set_cons_zero, List.set_cons_succ, i64_w, i32_w]
            rfl
          refine done_ (done_of HT_.out (by kernel_rfl)) ?_
          clear HW_ HT_
          go_wp2_with fail
          go_roundw
          case measure => simp [intOf]; omega
          case rel => exact ⟨i + 1, M2, nr2, cr2, c3, Ar2, A3, S2, hin, by go_num, HML, HMS, HXF, ⟨hHeld.1⟩⟩
        · by_cases hfu : N * (p - 1) < n + bl.length
          · have HT5 := HT
            have HA5 := Aside0.mk (fun (W : World) (T : Tw w W g g2 k p s seg N n S Ar nr cr A2 c2) => add17_full W g k p s seg n (.slice Ar nr cr) HFI.out T.wr (by rw [HNN.out]; exact HNM.out) A0 bl.length c0 (by omega) (by rw [HNN.out]; exact hfu))
            have HA6 := Aside0.mk (fun (W : World) (T : Tw w W g g2 k p s seg N n S Ar nr cr A2 c2) => radd18_full W g2 k p s seg (n / N) n c2 bl.length c0 A2 A0 HFI.out T.rw_ (by rw [HNN.out]; exact HNM.out) (by omega) (by rw [HNN.out]; exact hfu))
            have HR14 := Aside0.mk (fun (W : World) => rows14 W [] (by decide) (fun i hi => absurd hi (Nat.not_lt_zero i)) (Told.nil W) (Told.nil W))
            have HML := HNM
            have HMS := Aside0.mk (show n ≤ sumA l (i + 1) + (i + 1) * 7200 from by have := HNS.out; have := HSA.out; omega)
            have HXF := HXS
            clear HXS HNM HNS HA0 HC0 hmono HT hbl9 hz hfu
            go_wp2_with (first
              | (go_at_call 17; refine Calls.mono (HA5.out _ HT5.out) ?_; rintro e w5 ⟨rfl, hb⟩; replace HT5 := Aside0.mk (HT5.out.move hb); have x05 := pw_cell_below HT5.out.below HX0.out; clear hb)
              | (go_at_call 18; refine Calls.mono (HA6.out _ HT5.out) ?_; rintro e w6 ⟨rfl, hb⟩; replace HT5 := Aside0.mk (HT5.out.move hb); clear hb)
              | (go_at_call 14; refine Calls.mono (HR14.out _) ?_; rintro e w7 ⟨rfl, hb⟩; have HT7 := Aside0.mk (HT5.out.move hb); clear hb HT5))
            obtain ⟨M2, hM2⟩ : ∃ M2, n = M2 := ⟨_, rfl⟩
            obtain ⟨S2, hS2⟩ : ∃ S2, S = S2 := ⟨_, rfl⟩
            obtain ⟨Ar2, hAr2⟩ : ∃ Ar2, Ar = Ar2 := ⟨_, rfl⟩
            obtain ⟨nr2, hnr2⟩ : ∃ nr2, nr = nr2 := ⟨_, rfl⟩
            obtain ⟨cr2, hcr2⟩ : ∃ cr2, cr = cr2 := ⟨_, rfl⟩
            obtain ⟨A3, hA3⟩ : ∃ A3, A2 = A3 := ⟨_, rfl⟩
            obtain ⟨c3, hc3⟩ : ∃ c3, c2 = c3 := ⟨_, rfl⟩
            rw [hM2] at HML HMS HT7
            rw [hS2] at HXF HT7
            rw [hAr2, hnr2, hcr2, hA3, hc3] at HT7
            clear hM2 hS2 hAr2 hnr2 hcr2 hA3 hc3
            have HLP := Aside0.mk (fun (W : World) (r : Value) (h : Wr W g k p s seg M2 r) => show Calls Try.prog 20 #[.pointer (some ⟨g, 0, none⟩)] W fun e w' => e = .returned (.int .i64 (N * (p - 1) - M2 : Nat)) ∧ Below W.heap.size W w' from by have := left20 W g k p s seg M2 r HFI.out h (by rw [HNN.out]; exact HML.out); rw [HNN.out] at this; exact this)
            have HLR := Aside0.mk (fun (W : World) (t c : Nat) (A : Option Addr) (h : Rw W g2 k p s seg (.slice A M2 c) t) => show Calls Try.prog 21 #[.pointer (some ⟨g2, 0, none⟩)] W fun e w' => e = .returned (.int .i64 (N * (p - 1) - M2 : Nat)) ∧ Below W.heap.size W w' from by have := rleft21 W g2 k p s seg t M2 c A HFI.out h (by rw [HNN.out]; exact HML.out); rw [HNN.out] at this; exact this)
            obtain ⟨D, hD⟩ : ∃ D, N * (p - 1) - M2 = D := ⟨_, rfl⟩
            rw [hD] at HLP HLR
            clear hD
            have x4 := HT7.out.rw_.cells.2.2.2.2.1
            refine start_ (n := 15) (S := fun w' => Tw w w' g g2 k p s seg N M2 S2 Ar2 nr2 cr2 A3 c3 ∧ w'.cell? ⟨g2, 4, none⟩ = some (.slice A3 M2 c3)) (ds := []) #[false, false, false, false, false, false, false, false, false, false, false, false, false, false, false] (by kernel_rfl) rfl rfl ⟨HT7.out.move (below_drew (Below.refl _ _)), x4⟩ (fun hHeld => ?_)
            refine with_tabW writes21.tab21 writes21.bits21 (fun HT_ HW_ => ?_)
            refine pure_ (i := 0) (N := some 105) (v := ?_) (a' := ?_) #[true, false, false, false, false, false, false, false, false, false, false, false, false, false, false] rfl rfl (any_of HT_.out (by kernel_rfl)) (fun _ _ _ h => h) (Or.inl ⟨by rfl, ?_⟩) ?_ ?_
            rotate_left
            · intro w'
              go_simp
              with_reducible rfl
            rotate_left
            · simp only [Act.put, List.setIfInBounds_toArray, List.set_cons_zero, List.set_cons_succ, i64_w, i32_w]
              rfl
            refine pure_ (i := 2) (N := some 107) (v := ?_) (a' := ?_) #[true, false, true, false, false, false, false, false, false, false, false, false, false, false, false] rfl rfl (any_of HT_.out (by kernel_rfl)) (fun _ _ _ h => h) (Or.inl ⟨by rfl, ?_⟩) ?_ ?_
            rotate_left
            · intro w'
              go_simp
              with_reducible rfl
            rotate_left
            · simp only [Act.put, List.setIfInBounds_toArray, List.set_cons_zero, List.set_cons_succ, i64_w, i32_w]
              rfl
            refine pure_ (i := 3) (N := some 108) (v := ?_) (a' := ?_) #[true, false, true, true, false, false, false, false, false, false, false, false, false, false, false] rfl rfl (any_of HT_.out (by kernel_rfl)) (fun _ _ _ h => h) (Or.inl ⟨by rfl, ?_⟩) ?_ ?_
            rotate_left
            · intro w'
              go_simp
              with_reducible rfl
            rotate_left
            · simp only [Act.put, List.setIfInBounds_toArray, List.set_cons_zero, List.set_cons_succ, i64_w, i32_w]
              rfl
            refine pure_ (i := 4) (N := some 109) (v := ?_) (a' := ?_) #[true, false, true, true, true, false, false, false, false, false, false, false, false, false, false] rfl rfl (any_of HT_.out (by kernel_rfl)) (fun _ _ _ h => h) (Or.inl ⟨by rfl, ?_⟩) ?_ ?_
            rotate_left
            · intro w'
              go_simp
              with_reducible rfl
            rotate_left
            · simp only [Act.put, List.setIfInBounds_toArray, List.set_cons_zero, List.set_cons_succ, i64_w, i32_w]
              rfl
            refine take_ (i := 5) (N := some 110) (v := ?_) (a' := ?_) #[true, false, true, true, true, true, false, false, false, false, false, false, false, false, false] rfl rfl (take_ofW HT_.out HW_.out (by kernel_rfl)) (fun _ _ _ h => h) (Or.inl ⟨by rfl, ?_⟩) hHeld ?_ ?_
            rotate_left
            · rintro w' ⟨s0, s1⟩
              go_simp
              with_reducible rfl
            rotate_left
            · simp only [Act.put, List.setIfInBounds_toArray, List.set_cons_zero, List.set_cons_succ, i64_w, i32_w]
              rfl
            refine pure_ (i := 6) (N := some 111) (v := ?_) (a' := ?_) #[true, false, true, true, true, true, true, false, false, false, false, false, false, false, false] rfl rfl (any_of HT_.out (by kernel_rfl)) (fun _ _ _ h => h) (Or.inl ⟨by rfl, ?_⟩) ?_ ?_
            rotate_left
            · intro w'
              go_simp
              with_reducible rfl
            rotate_left
            · simp only [Act.put, List.setIfInBounds_toArray, List.set_cons_zero, List.set_cons_succ, i64_w, i32_w]
              rfl
            refine one_ (i := 1) (N := some 106) #[true, true, true, true, true, true, true, false, false, false, false, false, false, false, false] rfl rfl (one_of HT_.out (by kernel_rfl)) (by decide) (fun K hK => ?_)
            refine goes_ Try.func19 (by kernel_rfl) rfl #[.pointer (some ⟨g, 0, none⟩)] (by rfl) rfl rfl (by simp only [List.map_toArray, List.map_cons, List.map_nil]; rfl) ?_
            refine Calls.mono (size19 _ g k p s seg M2 _ hHeld.1.wr) ?_
            rintro e w8 ⟨rfl, hb⟩
            refine ⟨_, rfl, ?_⟩
            refine hK.out _ _ ⟨hHeld.1.move hb, (hHeld.1.move hb).rw_.cells.2.2.2.2.1⟩ (fun hHeld => ?_)
            clear hK K
            refine norm_ (a' := ?_) ?_ ?_
            rotate_left
            · show Act.put _ (some 106) _ = _
              simp only [Act.put, List.setIfInBounds_toArray, List.set_cons_zero, List.set_cons_succ, i64_w, i32_w]
              rfl
            refine pure_ (i := 7) (N := some 112) (v := ?_) (a' := ?_) #[true, true, true, true, true, true, true, true, false, false, false, false, false, false, false] rfl rfl (any_of HT_.out (by kernel_rfl)) (fun _ _ _ h => h) (Or.inl ⟨by rfl, ?_⟩) ?_ ?_
            rotate_left
            · intro w'
              go_simp
              with_reducible rfl
            rotate_left
            · simp only [Act.put, List.setIfInBounds_toArray, List.set_cons_zero, List.set_cons_succ, i64_w, i32_w]
              rfl
            refine pure_ (i := 8) (N := some 113) (v := ?_) (a' := ?_) #[true, true, true, true, true, true, true, true, true, false, false, false, false, false, false] rfl rfl (any_of HT_.out (by kernel_rfl)) (fun _ _ _ h => h) (Or.inl ⟨by rfl, ?_⟩) ?_ ?_
            rotate_left
            · intro w'
              go_simp
              with_reducible rfl
            rotate_left
            · simp only [Act.put, List.setIfInBounds_toArray, List.set_cons_zero, List.set_cons_succ, i64_w, i32_w]
              rfl
            refine pure_ (i := 9) (N := some 114) (v := ?_) (a' := ?_) #[true, true, true, true, true, true, true, true, true, true, false, false, false, false, false] rfl rfl (any_of HT_.out (by kernel_rfl)) (fun _ _ _ h => h) (Or.inl ⟨by rfl, ?_⟩) ?_ ?_
            rotate_left
            · intro w'
              go_simp
              with_reducible rfl
            rotate_left
            · simp only [Act.put, List.setIfInBounds_toArray, List.set_cons_zero, List.set_cons_succ, i64_w, i32_w]
              rfl
            refine pure_ (i := 11) (N := some 116) (v := ?_) (a' := ?_) #[true, true, true, true, true, true, true, true, true, true, false, true, false, false, false] rfl rfl (any_of HT_.out (by kernel_rfl)) (fun _ _ _ h => h) (Or.inl ⟨by rfl, ?_⟩) ?_ ?_
            rotate_left
            · intro w'
              go_simp
              with_reducible rfl
            rotate_left
            · simp only [Act.put, List.setIfInBounds_toArray, List.set_cons_zero, List.set_cons_succ, i64_w, i32_w]
              rfl
            refine one_ (i := 10) (N := some 115) #[true, true, true, true, true, true, true, true, true, true, true, true, false, false, false] rfl rfl (one_of HT_.out (by kernel_rfl)) (by decide) (fun K hK => ?_)
            refine goes_ Try.func20 (by kernel_rfl) rfl #[.pointer (some ⟨g, 0, none⟩)] (by rfl) rfl rfl (by simp only [List.map_toArray, List.map_cons, List.map_nil]; rfl) ?_
            refine Calls.mono (HLP.out _ _ hHeld.1.wr) ?_
            rintro e w9 ⟨rfl, hb⟩
            refine ⟨_, rfl, ?_⟩
            refine hK.out _ _ ⟨hHeld.1.move hb, (hHeld.1.move hb).rw_.cells.2.2.2.2.1⟩ (fun hHeld => ?_)
            clear hK K
            refine norm_ (a' := ?_) ?_ ?_
            rotate_left
            · show Act.put _ (some 115) _ = _
              simp only [Act.put, List.setIfInBounds_toArray, List.set_cons_zero, List.set_cons_succ, i64_w, i32_w]
              rfl
            refine one_ (i := 12) (N := some 117) #[true, true, true, true, true, true, true, true, true, true, true, true, true, false, false] rfl rfl (one_of HT_.out (by kernel_rfl)) (by decide) (fun K hK => ?_)
            refine goes_ Try.func21 (by kernel_rfl) rfl #[.pointer (some ⟨g2, 0, none⟩)] (by rfl) rfl rfl (by simp only [List.map_toArray, List.map_cons, List.map_nil]; rfl) ?_
            refine Calls.mono (HLR.out _ _ _ _ hHeld.1.rw_) ?_
            rintro e w10 ⟨rfl, hb⟩
            refine ⟨_, rfl, ?_⟩
            refine hK.out _ _ ⟨hHeld.1.move hb, (hHeld.1.move hb).rw_.cells.2.2.2.2.1⟩ (fun hHeld => ?_)
            clear hK K
            refine norm_ (a' := ?_) ?_ ?_
            rotate_left
            · show Act.put _ (some 117) _ = _
              simp only [Act.put, List.setIfInBounds_toArray, List.set_cons_zero, List.set_cons_succ, i64_w, i32_w]
              rfl
            refine pure_ (i := 13) (N := some 118) (v := ?_) (a' := ?_) #[true, true, true, true, true, true, true, true, true, true, true, true, true, true, false] rfl rfl (any_of HT_.out (by kernel_rfl)) (fun _ _ _ h => h) (Or.inl ⟨by rfl, ?_⟩) ?_ ?_
            rotate_left
            · intro w'
              go_simp
              with_reducible rfl
            rotate_left
            · simp only [Act.put, List.setIfInBounds_toArray, List.set_cons_zero, List.set_cons_succ, i64_w, i32_w]
              rfl
            refine pure_ (i := 14) (N := some 119) (v := ?_) (a' := ?_) #[true, true, true, true, true, true, true, true, true, true, true, true, true, true, true] rfl rfl (any_of HT_.out (by kernel_rfl)) (fun _ _ _ h => h) (Or.inl ⟨by rfl, ?_⟩) ?_ ?_
            rotate_left
            · intro w'
              go_simp
              with_reducible rfl
            rotate_left
            · simp only [Act.put, List.setIfInBounds_toArray, List.set_cons_zero, List.set_cons_succ, i64_w, i32_w]
              rfl
            refine done_ (done_of HT_.out (by kernel_rfl)) ?_
            clear HW_ HT_
            go_wp2_with fail
            go_roundw
            case measure => simp [intOf]; omega
            case rel => exact ⟨i + 1, M2, nr2, cr2, c3, Ar2, A3, S2, hin, by go_num, HML, HMS, HXF, ⟨hHeld.1⟩⟩
          · obtain ⟨M2, hM2⟩ : ∃ M2, n + bl.length = M2 := ⟨_, rfl⟩
            have h9 : M2 ≤ 4000000 := by have := HNS.out; have := sumA_mono l (Nat.le_of_lt hin); omega
            have HPP := Aside0.mk (fun (W : World) (T : Tw w W g g2 k p s seg N n S Ar nr cr A2 c2) => T.add HFI.out HNN.out HXS.out (Kd.C_below HA0.out T.below) HC0.out HBL.out hseg (by omega) hbl9 (Nat.le_of_not_lt hfu))
            have HPR := Aside0.mk (fun (W : World) (Ar2 : Option Addr) (nr2 cr2 : Nat) (v : Value) (P : List (List (List Int))) (t : Mid w W g g2 k p s seg N n (n + bl.length) S ((S ++ bl).drop ((n + bl.length) / N * N)) Ar2 nr2 cr2 A2 c2 v P) => t.add HFI.out HNN.out rfl HXS.out (Kd.C_below HA0.out t.below) HBL.out hseg (by omega) (by omega) (Nat.le_of_not_lt hfu) (cb := c0))
            have HML := Aside0.mk (show M2 ≤ N * (p - 1) from by omega)
            have HMS := Aside0.mk (show M2 ≤ sumA l (i + 1) + (i + 1) * 7200 from by have := HNS.out; have := HSA.out; omega)
            have HXF := Aside0.mk (show bytes (S ++ bl) = true from by have h1 := HXS.out; have h2 := HBL.out; unfold bytes at *; rw [List.all_append, h1, h2]; rfl)
            obtain ⟨S2, hS2⟩ : ∃ S2, S ++ bl = S2 := ⟨_, rfl⟩
            rw [hM2, hS2] at HPP HPR
            rw [hS2] at HXF
            have HMN := Aside0.mk (show M2 / N - n / N ≤ 5000000 from Nat.le_trans (Nat.sub_le _ _) (Nat.le_trans (Nat.div_le_self _ _) (by omega)))
            have HK32 := Aside0.mk (show k ≤ 32 from HFI.out.k2)
            obtain ⟨PP, hPP⟩ : ∃ PP, rowsP s seg (n / N) k N (M2 / N - n / N) (S2.drop (n / N * N)) = PP := ⟨_, rfl⟩
            have HR14 := Aside0.mk (fun (W : World) (v0 v1 : Value) (h0 : Told W v0 PP) (h1 : Told W v1 PP) => rows14 W PP (by rw [← hPP, rowsP_len]; exact HMN.out) (by rw [← hPP]; exact rowsP_small HK32.out) h0 h1)
            rw [hPP] at HPP HPR
            clear hS2 hM2 h9 HXS HNM HNS HA0 HC0 hPP hmono hbl9 hz hfu
            go_wp2_with (first
              | (go_at_call 17; refine Calls.mono (HPP.out _ HT.out) ?_; rintro e w5 ⟨v5, Ar2, nr2, cr2, rfl, hM⟩; have HM5 := Aside0.mk hM; have x05 := pw_cell_below HM5.out.below HX0.out; clear hM)
              | (go_at_call 18; refine Calls.mono (HPR.out _ _ _ _ _ _ HM5.out) ?_; rintro e w6 ⟨v6, A3, c3, rfl, hT, h1, h2⟩; have HT6 := Aside0.mk hT; have HE1 := Aside0.mk h1; have HE2 := Aside0.mk h2; clear hT h1 h2)
              | (go_at_call 14; refine Calls.mono (HR14.out _ _ _ HE1.out HE2.out) ?_; rintro e w7 ⟨rfl, hb⟩; have HT7 := Aside0.mk (HT6.out.move hb); clear hb))
            have HLP := Aside0.mk (fun (W : World) (r : Value) (h : Wr W g k p s seg M2 r) => show Calls Try.prog 20 #[.pointer (some ⟨g, 0, none⟩)] W fun e w' => e = .returned (.int .i64 (N * (p - 1) - M2 : Nat)) ∧ Below W.heap.size W w' from by have := left20 W g k p s seg M2 r HFI.out h (by rw [HNN.out]; exact HML.out); rw [HNN.out] at this; exact this)
            have HLR := Aside0.mk (fun (W : World) (t c : Nat) (A : Option Addr) (h : Rw W g2 k p s seg (.slice A M2 c) t) => show Calls Try.prog 21 #[.pointer (some ⟨g2, 0, none⟩)] W fun e w' => e = .returned (.int .i64 (N * (p - 1) - M2 : Nat)) ∧ Below W.heap.size W w' from by have := rleft21 W g2 k p s seg t M2 c A HFI.out h (by rw [HNN.out]; exact HML.out); rw [HNN.out] at this; exact this)
            obtain ⟨D, hD⟩ : ∃ D, N * (p - 1) - M2 = D := ⟨_, rfl⟩
            rw [hD] at HLP HLR
            clear hD
            have x4 := HT7.out.rw_.cells.2.2.2.2.1
            refine start_ (n := 15) (S := fun w' => Tw w w' g g2 k p s seg N M2 S2 Ar2 nr2 cr2 A3 c3 ∧ w'.cell? ⟨g2, 4, none⟩ = some (.slice A3 M2 c3)) (ds := []) #[false, false, false, false, false, false, false, false, false, false, false, false, false, false, false] (by kernel_rfl) rfl rfl ⟨HT7.out.move (below_drew (Below.refl _ _)), x4⟩ (fun hHeld => ?_)
            refine with_tabW writes21.tab21 writes21.bits21 (fun HT_ HW_ => ?_)
            refine pure_ (i := 0) (N := some 105) (v := ?_) (a' := ?_) #[true, false, false, false, false, false, false, false, false, false, false, false, false, false, false] rfl rfl (any_of HT_.out (by kernel_rfl)) (fun _ _ _ h => h) (Or.inl ⟨by rfl, ?_⟩) ?_ ?_
            rotate_left
            · intro w'
              go_simp
              with_reducible rfl
            rotate_left
            · simp only [Act.put, List.setIfInBounds_toArray, List.set_cons_zero, List.set_cons_succ, i64_w, i32_w]
              rfl
            refine pure_ (i := 2) (N := some 107) (v := ?_) (a' := ?_) #[true, false, true, false, false, false, false, false, false, false, false, false, false, false, false] rfl rfl (any_of HT_.out (by kernel_rfl)) (fun _ _ _ h => h) (Or.inl ⟨by rfl, ?_⟩) ?_ ?_
            rotate_left
            · intro w'
              go_simp
              with_reducible rfl
            rotate_left
            · simp only [Act.put, List.setIfInBounds_toArray, List.set_cons_zero, List.set_cons_succ, i64_w, i32_w]
              rfl
            refine pure_ (i := 3) (N := some 108) (v := ?_) (a' := ?_) #[true, false, true, true, false, false, false, false, false, false, false, false, false, false, false] rfl rfl (any_of HT_.out (by kernel_rfl)) (fun _ _ _ h => h) (Or.inl ⟨by rfl, ?_⟩) ?_ ?_
            rotate_left
            · intro w'
              go_simp
              with_reducible rfl
            rotate_left
            · simp only [Act.put, List.setIfInBounds_toArray, List.set_cons_zero, List.set_cons_succ, i64_w, i32_w]
              rfl
            refine pure_ (i := 4) (N := some 109) (v := ?_) (a' := ?_) #[true, false, true, true, true, false, false, false, false, false, false, false, false, false, false] rfl rfl (any_of HT_.out (by kernel_rfl)) (fun _ _ _ h => h) (Or.inl ⟨by rfl, ?_⟩) ?_ ?_
            rotate_left
            · intro w'
              go_simp
              with_reducible rfl
            rotate_left
            · simp only [Act.put, List.setIfInBounds_toArray, List.set_cons_zero, List.set_cons_succ, i64_w, i32_w]
              rfl
            refine take_ (i := 5) (N := some 110) (v := ?_) (a' := ?_) #[true, false, true, true, true, true, false, false, false, false, false, false, false, false, false] rfl rfl (take_ofW HT_.out HW_.out (by kernel_rfl)) (fun _ _ _ h => h) (Or.inl ⟨by rfl, ?_⟩) hHeld ?_ ?_
            rotate_left
            · rintro w' ⟨s0, s1⟩
              go_simp
              with_reducible rfl
            rotate_left
            · simp only [Act.put, List.setIfInBounds_toArray, List.set_cons_zero, List.set_cons_succ, i64_w, i32_w]
              rfl
            refine pure_ (i := 6) (N := some 111) (v := ?_) (a' := ?_) #[true, false, true, true, true, true, true, false, false, false, false, false, false, false, false] rfl rfl (any_of HT_.out (by kernel_rfl)) (fun _ _ _ h => h) (Or.inl ⟨by rfl, ?_⟩) ?_ ?_
            rotate_left
            · intro w'
              go_simp
              with_reducible rfl
            rotate_left
            · simp only [Act.put, List.setIfInBounds_toArray, List.set_cons_zero, List.set_cons_succ, i64_w, i32_w]
              rfl
            refine one_ (i := 1) (N := some 106) #[true, true, true, true, true, true, true, false, false, false, false, false, false, false, false] rfl rfl (one_of HT_.out (by kernel_rfl)) (by decide) (fun K hK => ?_)
            refine goes_ Try.func19 (by kernel_rfl) rfl #[.pointer (some ⟨g, 0, none⟩)] (by rfl) rfl rfl (by simp only [List.map_toArray, List.map_cons, List.map_nil]; rfl) ?_
            refine Calls.mono (size19 _ g k p s seg M2 _ hHeld.1.wr) ?_
            rintro e w8 ⟨rfl, hb⟩
            refine ⟨_, rfl, ?_⟩
            refine hK.out _ _ ⟨hHeld.1.move hb, (hHeld.1.move hb).rw_.cells.2.2.2.2.1⟩ (fun hHeld => ?_)
            clear hK K
            refine norm_ (a' := ?_) ?_ ?_
            rotate_left
            · show Act.put _ (some 106) _ = _
              simp only [Act.put, List.setIfInBounds_toArray, List.set_cons_zero, List.set_cons_succ, i64_w, i32_w]
              rfl
            refine pure_ (i := 7) (N := some 112) (v := ?_) (a' := ?_) #[true, true, true, true, true, true, true, true, false, false, false, false, false, false, false] rfl rfl (any_of HT_.out (by kernel_rfl)) (fun _ _ _ h => h) (Or.inl ⟨by rfl, ?_⟩) ?_ ?_
            rotate_left
            · intro w'
              go_simp
              with_reducible rfl
            rotate_left
            · simp only [Act.put, List.setIfInBounds_toArray, List.set_cons_zero, List.set_cons_succ, i64_w, i32_w]
              rfl
            refine pure_ (i := 8) (N := some 113) (v := ?_) (a' := ?_) #[true, true, true, true, true, true, true, true, true, false, false, false, false, false, false] rfl rfl (any_of HT_.out (by kernel_rfl)) (fun _ _ _ h => h) (Or.inl ⟨by rfl, ?_⟩) ?_ ?_
            rotate_left
            · intro w'
              go_simp
              with_reducible rfl
            rotate_left
            · simp only [Act.put, List.setIfInBounds_toArray, List.set_cons_zero, List.set_cons_succ, i64_w, i32_w]
              rfl
            refine pure_ (i := 9) (N := some 114) (v := ?_) (a' := ?_) #[true, true, true, true, true, true, true, true, true, true, false, false, false, false, false] rfl rfl (any_of HT_.out (by kernel_rfl)) (fun _ _ _ h => h) (Or.inl ⟨by rfl, ?_⟩) ?_ ?_
            rotate_left
            · intro w'
              go_simp
              with_reducible rfl
            rotate_left
            · simp only [Act.put, List.setIfInBounds_toArray, List.set_cons_zero, List.set_cons_succ, i64_w, i32_w]
              rfl
            refine pure_ (i := 11) (N := some 116) (v := ?_) (a' := ?_) #[true, true, true, true, true, true, true, true, true, true, false, true, false, false, false] rfl rfl (any_of HT_.out (by kernel_rfl)) (fun _ _ _ h => h) (Or.inl ⟨by rfl, ?_⟩) ?_ ?_
            rotate_left
            · intro w'
              go_simp
              with_reducible rfl
            rotate_left
            · simp only [Act.put, List.setIfInBounds_toArray, List.set_cons_zero, List.set_cons_succ, i64_w, i32_w]
              rfl
            refine one_ (i := 10) (N := some 115) #[true, true, true, true, true, true, true, true, true, true, true, true, false, false, false] rfl rfl (one_of HT_.out (by kernel_rfl)) (by decide) (fun K hK => ?_)
            refine goes_ Try.func20 (by kernel_rfl) rfl #[.pointer (some ⟨g, 0, none⟩)] (by rfl) rfl rfl (by simp only [List.map_toArray, List.map_cons, List.map_nil]; rfl) ?_
            refine Calls.mono (HLP.out _ _ hHeld.1.wr) ?_
            rintro e w9 ⟨rfl, hb⟩
            refine ⟨_, rfl, ?_⟩
            refine hK.out _ _ ⟨hHeld.1.move hb, (hHeld.1.move hb).rw_.cells.2.2.2.2.1⟩ (fun hHeld => ?_)
            clear hK K
            refine norm_ (a' := ?_) ?_ ?_
            rotate_left
            · show Act.put _ (some 115) _ = _
              simp only [Act.put, List.setIfInBounds_toArray, List.set_cons_zero, List.set_cons_succ, i64_w, i32_w]
              rfl
            refine one_ (i := 12) (N := some 117) #[true, true, true, true, true, true, true, true, true, true, true, true, true, false, false] rfl rfl (one_of HT_.out (by kernel_rfl)) (by decide) (fun K hK => ?_)
            refine goes_ Try.func21 (by kernel_rfl) rfl #[.pointer (some ⟨g2, 0, none⟩)] (by rfl) rfl rfl (by simp only [List.map_toArray, List.map_cons, List.map_nil]; rfl) ?_
            refine Calls.mono (HLR.out _ _ _ _ hHeld.1.rw_) ?_
            rintro e w10 ⟨rfl, hb⟩
            refine ⟨_, rfl, ?_⟩
            refine hK.out _ _ ⟨hHeld.1.move hb, (hHeld.1.move hb).rw_.cells.2.2.2.2.1⟩ (fun hHeld => ?_)
            clear hK K
            refine norm_ (a' := ?_) ?_ ?_
            rotate_left
            · show Act.put _ (some 117) _ = _
              simp only [Act.put, List.setIfInBounds_toArray, List.set_cons_zero, List.set_cons_succ, i64_w, i32_w]
              rfl
            refine pure_ (i := 13) (N := some 118) (v := ?_) (a' := ?_) #[true, true, true, true, true, true, true, true, true, true, true, true, true, true, false] rfl rfl (any_of HT_.out (by kernel_rfl)) (fun _ _ _ h => h) (Or.inl ⟨by rfl, ?_⟩) ?_ ?_
            rotate_left
            · intro w'
              go_simp
              with_reducible rfl
            rotate_left
            · simp only [Act.put, List.setIfInBounds_toArray, List.set_cons_zero, List.set_cons_succ, i64_w, i32_w]
              rfl
            refine pure_ (i := 14) (N := some 119) (v := ?_) (a' := ?_) #[true, true, true, true, true, true, true, true, true, true, true, true, true, true, true] rfl rfl (any_of HT_.out (by kernel_rfl)) (fun _ _ _ h => h) (Or.inl ⟨by rfl, ?_⟩) ?_ ?_
            rotate_left
            · intro w'
              go_simp
              with_reducible rfl
            rotate_left
            · simp only [Act.put, List.setIfInBounds_toArray, List.set_cons_zero, List.set_cons_succ, i64_w, i32_w]
              rfl
            refine done_ (done_of HT_.out (by kernel_rfl)) ?_
            clear HW_ HT_
            go_wp2_with fail
            go_roundw
            case measure => simp [intOf]; omega
            case rel => exact ⟨i + 1, M2, nr2, cr2, c3, Ar2, A3, S2, hin, by go_num, HML, HMS, HXF, ⟨hHeld.1⟩⟩
      · obtain ⟨M2, hM2⟩ : ∃ M2, n + lack n N = M2 := ⟨_, rfl⟩
        have hlk := lack_le (n := n) hNp
        have h9 : M2 ≤ 4000000 := by have := HNS.out; have := sumA_mono l (Nat.le_of_lt hin); omega
        have HPP := Aside0.mk (HT.out.pad HFI.out HNN.out HXS.out hseg HNM.out hM2)
        have HPR := Aside0.mk (fun (W : World) (Ar2 : Option Addr) (nr2 cr2 : Nat) (v : Value) (P : List (List (List Int))) (t : Mid w W g g2 k p s seg N n M2 S ((filled S N).drop (M2 / N * N)) Ar2 nr2 cr2 A2 c2 v P) => t.pad HFI.out HNN.out rfl HXS.out hseg HNM.out hM2 h9)
        have HML := Aside0.mk (show M2 ≤ N * (p - 1) from by
          have hfr := filled_room (S := S) hNp (by rw [HT.out.slen]; exact HNM.out)
          rw [HT.out.slen] at hfr
          by_cases hz : n % N = 0
          · rw [← hM2, show lack n N = 0 by unfold lack; rw [if_pos hz]]; exact HNM.out
          · rw [if_neg hz] at hfr
            rw [← hM2, lack_div hNp hz, Nat.mul_comm]
            exact Nat.mul_le_mul_left N hfr)
        have HMS := Aside0.mk (show M2 ≤ sumA l (i + 1) + (i + 1) * 7200 from by have := HNS.out; have := HSA.out; omega)
        have HXF := Aside0.mk (show bytes (filled S N) = true from by
          rw [filled_eq]; have := HXS.out; unfold bytes at *; rw [List.all_append, this, Bool.true_and, List.all_eq_true]; intro z hz; rw [List.eq_of_mem_replicate hz]; rfl)
        obtain ⟨S2, hS2⟩ : ∃ S2, filled S N = S2 := ⟨_, rfl⟩
        rw [hS2] at HPP HPR HXF
        have HMN := Aside0.mk (show M2 / N - n / N ≤ 5000000 from Nat.le_trans (Nat.sub_le _ _) (Nat.le_trans (Nat.div_le_self _ _) (by omega)))
        have HK32 := Aside0.mk (show k ≤ 32 from HFI.out.k2)
        obtain ⟨PP, hPP⟩ : ∃ PP, rowsP s seg (n / N) k N (M2 / N - n / N) (S2.drop (n / N * N)) = PP := ⟨_, rfl⟩
        have HR14 := Aside0.mk (fun (W : World) (v0 v1 : Value) (h0 : Told W v0 PP) (h1 : Told W v1 PP) => rows14 W PP (by rw [← hPP, rowsP_len]; exact HMN.out) (by rw [← hPP]; exact rowsP_small HK32.out) h0 h1)
        rw [hPP] at HPP HPR
        clear hS2 hM2 hlk h9 HXS HNM HNS HX0 HA0 HC0 hPP hmono
        go_wp2_with (first
          | (go_at_call 15; refine Calls.mono HPP.out ?_; rintro e w5 ⟨v5, Ar2, nr2, cr2, rfl, hM⟩; have HM5 := Aside0.mk hM; clear hM)
          | (go_at_call 16; refine Calls.mono (HPR.out _ _ _ _ _ _ HM5.out) ?_; rintro e w6 ⟨v6, A3, c3, rfl, hT, h1, h2⟩; have HT6 := Aside0.mk hT; have HE1 := Aside0.mk h1; have HE2 := Aside0.mk h2; clear hT h1 h2)
          | (go_at_call 14; refine Calls.mono (HR14.out _ _ _ HE1.out HE2.out) ?_; rintro e w7 ⟨rfl, hb⟩; have HT7 := Aside0.mk (HT6.out.move hb); clear hb))
        have HLP := Aside0.mk (fun (W : World) (r : Value) (h : Wr W g k p s seg M2 r) => show Calls Try.prog 20 #[.pointer (some ⟨g, 0, none⟩)] W fun e w' => e = .returned (.int .i64 (N * (p - 1) - M2 : Nat)) ∧ Below W.heap.size W w' from by have := left20 W g k p s seg M2 r HFI.out h (by rw [HNN.out]; exact HML.out); rw [HNN.out] at this; exact this)
        have HLR := Aside0.mk (fun (W : World) (t c : Nat) (A : Option Addr) (h : Rw W g2 k p s seg (.slice A M2 c) t) => show Calls Try.prog 21 #[.pointer (some ⟨g2, 0, none⟩)] W fun e w' => e = .returned (.int .i64 (N * (p - 1) - M2 : Nat)) ∧ Below W.heap.size W w' from by have := rleft21 W g2 k p s seg t M2 c A HFI.out h (by rw [HNN.out]; exact HML.out); rw [HNN.out] at this; exact this)
        obtain ⟨D, hD⟩ : ∃ D, N * (p - 1) - M2 = D := ⟨_, rfl⟩
        rw [hD] at HLP HLR
        clear hD
        have x4 := HT7.out.rw_.cells.2.2.2.2.1
        refine start_ (n := 15) (S := fun w' => Tw w w' g g2 k p s seg N M2 S2 Ar2 nr2 cr2 A3 c3 ∧ w'.cell? ⟨g2, 4, none⟩ = some (.slice A3 M2 c3)) (ds := []) #[false, false, false, false, false, false, false, false, false, false, false, false, false, false, false] (by kernel_rfl) rfl rfl ⟨HT7.out.move (below_drew (Below.refl _ _)), x4⟩ (fun hHeld => ?_)
        refine with_tabW writes21.tab21 writes21.bits21 (fun HT_ HW_ => ?_)
        refine pure_ (i := 0) (N := some 105) (v := ?_) (a' := ?_) #[true, false, false, false, false, false, false, false, false, false, false, false, false, false, false] rfl rfl (any_of HT_.out (by kernel_rfl)) (fun _ _ _ h => h) (Or.inl ⟨by rfl, ?_⟩) ?_ ?_
        rotate_left
        · intro w'
          go_simp
          with_reducible rfl
        rotate_left
        · simp only [Act.put, List.setIfInBounds_toArray, List.set_cons_zero, List.set_cons_succ, i64_w, i32_w]
          rfl
        refine pure_ (i := 2) (N := some 107) (v := ?_) (a' := ?_) #[true, false, true, false, false, false, false, false, false, false, false, false, false, false, false] rfl rfl (any_of HT_.out (by kernel_rfl)) (fun _ _ _ h => h) (Or.inl ⟨by rfl, ?_⟩) ?_ ?_
        rotate_left
        · intro w'
          go_simp
          with_reducible rfl
        rotate_left
        · simp only [Act.put, List.setIfInBounds_toArray, List.set_cons_zero, List.set_cons_succ, i64_w, i32_w]
          rfl
        refine pure_ (i := 3) (N := some 108) (v := ?_) (a' := ?_) #[true, false, true, true, false, false, false, false, false, false, false, false, false, false, false] rfl rfl (any_of HT_.out (by kernel_rfl)) (fun _ _ _ h => h) (Or.inl ⟨by rfl, ?_⟩) ?_ ?_
        rotate_left
        · intro w'
          go_simp
          with_reducible rfl
        rotate_left
        · simp only [Act.put, List.setIfInBounds_toArray, List.set_cons_zero, List.set_cons_succ, i64_w, i32_w]
          rfl
        refine pure_ (i := 4) (N := some 109) (v := ?_) (a' := ?_) #[true, false, true, true, true, false, false, false, false, false, false, false, false, false, false] rfl rfl (any_of HT_.out (by kernel_rfl)) (fun _ _ _ h => h) (Or.inl ⟨by rfl, ?_⟩) ?_ ?_
        rotate_left
        · intro w'
          go_simp
          with_reducible rfl
        rotate_left
        · simp only [Act.put, List.setIfInBounds_toArray, List.set_cons_zero, List.set_cons_succ, i64_w, i32_w]
          rfl
        refine take_ (i := 5) (N := some 110) (v := ?_) (a' := ?_) #[true, false, true, true, true, true, false, false, false, false, false, false, false, false, false] rfl rfl (take_ofW HT_.out HW_.out (by kernel_rfl)) (fun _ _ _ h => h) (Or.inl ⟨by rfl, ?_⟩) hHeld ?_ ?_
        rotate_left
        · rintro w' ⟨s0, s1⟩
          go_simp
          with_reducible rfl
        rotate_left
        · simp only [Act.put, List.setIfInBounds_toArray, List.set_cons_zero, List.set_cons_succ, i64_w, i32_w]
          rfl
        refine pure_ (i := 6) (N := some 111) (v := ?_) (a' := ?_) #[true, false, true, true, true, true, true, false, false, false, false, false, false, false, false] rfl rfl (any_of HT_.out (by kernel_rfl)) (fun _ _ _ h => h) (Or.inl ⟨by rfl, ?_⟩) ?_ ?_
        rotate_left
        · intro w'
          go_simp
          with_reducible rfl
        rotate_left
        · simp only [Act.put, List.setIfInBounds_toArray, List.set_cons_zero, List.set_cons_succ, i64_w, i32_w]
          rfl
        refine one_ (i := 1) (N := some 106) #[true, true, true, true, true, true, true, false, false, false, false, false, false, false, false] rfl rfl (one_of HT_.out (by kernel_rfl)) (by decide) (fun K hK => ?_)
        refine goes_ Try.func19 (by kernel_rfl) rfl #[.pointer (some ⟨g, 0, none⟩)] (by rfl) rfl rfl (by simp only [List.map_toArray, List.map_cons, List.map_nil]; rfl) ?_
        refine Calls.mono (size19 _ g k p s seg M2 _ hHeld.1.wr) ?_
        rintro e w8 ⟨rfl, hb⟩
        refine ⟨_, rfl, ?_⟩
        refine hK.out _ _ ⟨hHeld.1.move hb, (hHeld.1.move hb).rw_.cells.2.2.2.2.1⟩ (fun hHeld => ?_)
        clear hK K
        refine norm_ (a' := ?_) ?_ ?_
        rotate_left
        · show Act.put _ (some 106) _ = _
          simp only [Act.put, List.setIfInBounds_toArray, List.set_cons_zero, List.set_cons_succ, i64_w, i32_w]
          rfl
        refine pure_ (i := 7) (N := some 112) (v := ?_) (a' := ?_) #[true, true, true, true, true, true, true, true, false, false, false, false, false, false, false] rfl rfl (any_of HT_.out (by kernel_rfl)) (fun _ _ _ h => h) (Or.inl ⟨by rfl, ?_⟩) ?_ ?_
        rotate_left
        · intro w'
          go_simp
          with_reducible rfl
        rotate_left
        · simp only [Act.put, List.setIfInBounds_toArray, List.set_cons_zero, List.set_cons_succ, i64_w, i32_w]
          rfl
        refine pure_ (i := 8) (N := some 113) (v := ?_) (a' := ?_) #[true, true, true, true, true, true, true, true, true, false, false, false, false, false, false] rfl rfl (any_of HT_.out (by kernel_rfl)) (fun _ _ _ h => h) (Or.inl ⟨by rfl, ?_⟩) ?_ ?_
        rotate_left
        · intro w'
          go_simp
          with_reducible rfl
        rotate_left
        · simp only [Act.put, List.setIfInBounds_toArray, List.set_cons_zero, List.set_cons_succ, i64_w, i32_w]
          rfl
        refine pure_ (i := 9) (N := some 114) (v := ?_) (a' := ?_) #[true, true, true, true, true, true, true, true, true, true, false, false, false, false, false] rfl rfl (any_of HT_.out (by kernel_rfl)) (fun _ _ _ h => h) (Or.inl ⟨by rfl, ?_⟩) ?_ ?_
        rotate_left
        · intro w'
          go_simp
          with_reducible rfl
        rotate_left
        · simp only [Act.put, List.setIfInBounds_toArray, List.set_cons_zero, List.set_cons_succ, i64_w, i32_w]
          rfl
        refine pure_ (i := 11) (N := some 116) (v := ?_) (a' := ?_) #[true, true, true, true, true, true, true, true, true, true, false, true, false, false, false] rfl rfl (any_of HT_.out (by kernel_rfl)) (fun _ _ _ h => h) (Or.inl ⟨by rfl, ?_⟩) ?_ ?_
        rotate_left
        · intro w'
          go_simp
          with_reducible rfl
        rotate_left
        · simp only [Act.put, List.setIfInBounds_toArray, List.set_cons_zero, List.set_cons_succ, i64_w, i32_w]
          rfl
        refine one_ (i := 10) (N := some 115) #[true, true, true, true, true, true, true, true, true, true, true, true, false, false, false] rfl rfl (one_of HT_.out (by kernel_rfl)) (by decide) (fun K hK => ?_)
        refine goes_ Try.func20 (by kernel_rfl) rfl #[.pointer (some ⟨g, 0, none⟩)] (by rfl) rfl rfl (by simp only [List.map_toArray, List.map_cons, List.map_nil]; rfl) ?_
        refine Calls.mono (HLP.out _ _ hHeld.1.wr) ?_
        rintro e w9 ⟨rfl, hb⟩
        refine ⟨_, rfl, ?_⟩
        refine hK.out _ _ ⟨hHeld.1.move hb, (hHeld.1.move hb).rw_.cells.2.2.2.2.1⟩ (fun hHeld => ?_)
        clear hK K
        refine norm_ (a' := ?_) ?_ ?_
        rotate_left
        · show Act.put _ (some 115) _ = _
          simp only [Act.put, List.setIfInBounds_toArray, List.set_cons_zero, List.set_cons_succ, i64_w, i32_w]
          rfl
        refine one_ (i := 12) (N := some 117) #[true, true, true, true, true, true, true, true, true, true, true, true, true, false, false] rfl rfl (one_of HT_.out (by kernel_rfl)) (by decide) (fun K hK => ?_)
        refine goes_ Try.func21 (by kernel_rfl) rfl #[.pointer (some ⟨g2, 0, none⟩)] (by rfl) rfl rfl (by simp only [List.map_toArray, List.map_cons, List.map_nil]; rfl) ?_
        refine Calls.mono (HLR.out _ _ _ _ hHeld.1.rw_) ?_
        rintro e w10 ⟨rfl, hb⟩
        refine ⟨_, rfl, ?_⟩
        refine hK.out _ _ ⟨hHeld.1.move hb, (hHeld.1.move hb).rw_.cells.2.2.2.2.1⟩ (fun hHeld => ?_)
        clear hK K
        refine norm_ (a' := ?_) ?_ ?_
        rotate_left
        · show Act.put _ (some 117) _ = _
          simp only [Act.put, List.setIfInBounds_toArray, List.set_cons_zero, List.set_cons_succ, i64_w, i32_w]
          rfl
        refine pure_ (i := 13) (N := some 118) (v := ?_) (a' := ?_) #[true, true, true, true, true, true, true, true, true, true, true, true, true, true, false] rfl rfl (any_of HT_.out (by kernel_rfl)) (fun _ _ _ h => h) (Or.inl ⟨by rfl, ?_⟩) ?_ ?_
        rotate_left
        · intro w'
          go_simp
          with_reducible rfl
        rotate_left
        · simp only [Act.put, List.setIfInBounds_toArray, List.set_cons_zero, List.set_cons_succ, i64_w, i32_w]
          rfl
        refine pure_ (i := 14) (N := some 119) (v := ?_) (a' := ?_) #[true, true, true, true, true, true, true, true, true, true, true, true, true, true, true] rfl rfl (any_of HT_.out (by kernel_rfl)) (fun _ _ _ h => h) (Or.inl ⟨by rfl, ?_⟩) ?_ ?_
        rotate_left
        · intro w'
          go_simp
          with_reducible rfl
        rotate_left
        · simp only [Act.put, List.setIfInBounds_toArray, List.set_cons_zero, List.set_cons_succ, i64_w, i32_w]
          rfl
        refine done_ (done_of HT_.out (by kernel_rfl)) ?_
        clear HW_ HT_
        go_wp2_with fail
        go_roundw
        case measure => simp [intOf]; omega
        case rel => exact ⟨i + 1, M2, nr2, cr2, c3, Ar2, A3, S2, hin, by go_num, HML, HMS, HXF, ⟨hHeld.1⟩⟩
    · obtain rfl : i = nl := by omega
      have t1 : decide ((i : Int) < (i : Int)) = false := decide_eq_false (by omega)
      have t2 : decide (i < i) = false := decide_eq_false (by omega)
      go_wp2_with fail
      go_ret
      exact ⟨rfl, HT.out.below⟩
theorem writes3 (w : World) (x y z : Int) (a : Int) (wa : (Lit.int .u64 a).wf = true) (A : Option Addr) (c : Nat) (l : List S41) (hC : Kd.C k41 w A l.length l) (hc : l.length ≤ c) (hw : ∀ x ∈ l, x.f0.length ≤ 1048576 ∧ ∀ z ∈ x.f0, (Lit.int .u8 z).wf = true) (hl : l.length ≤ 1048576) : Calls Try.prog 3 #[.agg #[.int .i64 x, .int .i64 y, .int .i64 z], .int .u64 a, .slice A l.length c] w fun e w' => e = .returned (.bool true) ∧ Below w.heap.size w w' := by
  obtain ⟨seg, rfl, hseg⟩ := u64_of wa
  have h1 : ∀ x ∈ l, x.f0.length ≤ 1048576 := fun x hx => (hw x hx).1
  have h2 : ∀ x ∈ l, ∀ z ∈ x.f0, (Lit.int .u8 z).wf = true := fun x hx => (hw x hx).2
  rcases check_any x y z with h | ⟨k, p, s, hf, rfl, rfl, rfl⟩
  · exact writes3_no w x y z seg h1 hl rfl hC hc h
  · by_cases h : (s ≤ 600 ∧ k ≤ 12) ∧ (l.length ≤ 200 ∧ sumA l l.length ≤ 20000)
    · exact writes3_on w hf seg hseg h1 h2 hl rfl hC hc h.1.1 h.1.2 h.2.1 h.2.2
    · exact writes3_off w hf seg h1 hl rfl hC hc h
end Go.Proofs.Ytjnicooboiijgaa.Sg
