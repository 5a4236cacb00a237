/- Several texts of this session laid together: SgWf, SgWh, SgWa, SgWp. -/
import Derived.Test.YtjnicooboiijgaaMRa
import Derived.Test.YtjnicooboiijgaaMSc
section
/-
  The reference's writer: what stands beside it.
-/
set_option linter.unusedVariables false
set_option linter.unusedSimpArgs false
namespace Go.Proofs.Ytjnicooboiijgaa.Sg
open Go.RowKit Go.Proofs.YtjnicooboiijgaaW.PrintWords Go.Proofs.YtjnicooboiijgaaW.PrintLast Go.Proofs.YtjnicooboiijgaaW.PrintMore Go.Proofs.Ytjnicooboiijgaa.PSg Go.Proofs.Ytjnicooboiijgaa.Gf Go.Proofs.Ytjnicooboiijgaa.Rs
/-- Where the program's writer is set alone, the reference's stands, and the other way round. -/
theorem Rw.keep {W W' : World} {g h k pgs sz seg told : Nat} {b : Value} (hw : Rw W g k pgs sz seg b told) (hk : KeepBut W W' h none) (hne : g ≠ h) : Rw W' g k pgs sz seg b told := hk.blk hw hne (by simp)
/-- How many rows a stream of n bytes has that were not told: whole is asked while (told + 1) rows are there. -/
theorem whole_more {n N t : Nat} (hN : 0 < N) : (t + 1) * N ≤ n ↔ t < n / N := by
  rw [Nat.lt_iff_add_one_le, Nat.le_div_iff_mul_le hN]
/-- Rows of pages in a row of rows u that grows; none of them lies in u's block. -/
structure OutN (W : World) (b : Nat) (u : Value) (hs : List Hd) (P : List (List (List Int))) : Prop where
  len : hs.length = P.length
  rows : ∀ (i : Nat) (x : Hd), hs[i]? = some x → x.2.1 = (P.getD i []).length ∧ Kd.N (Kd.slice 5 (Kd.int .u8)) 37 W b (fun k => b ≤ k ∧ some k ≠ u.ownBlock) (.slice x.1 x.2.1 x.2.2) (P.getD i [])
theorem OutN.nil (W : World) (b : Nat) (u : Value) : OutN W b u [] [] := ⟨rfl, fun i x hx => by simp at hx⟩
theorem OutN.below {W W1 : World} {b : Nat} {u : Value} {hs : List Hd} {P : List (List (List Int))} (h : OutN W b u hs P) (hb : Below W.heap.size W W1) : OutN W1 b u hs P :=
  ⟨h.len, fun i x hx => ⟨(h.rows i x hx).1, Kd.N_below (h.rows i x hx).2 hb⟩⟩
theorem OutN.keep {W W1 : World} {b g : Nat} {u : Value} {hs : List Hd} {P : List (List (List Int))} (h : OutN W b u hs P) (hk : KeepBut W W1 g none) (hg : g < b) : OutN W1 b u hs P :=
  ⟨h.len, fun i x hx => ⟨(h.rows i x hx).1, Kd.N_keep (h.rows i x hx).2 hk (fun k hk' e => by have := hk'.1; omega)⟩⟩
theorem OutN.after {W W1 : World} {b : Nat} {u u1 : Value} {hs : List Hd} {P : List (List (List Int))} (h : OutN W b u hs P) (hg : W.grownBy W1 u.ownBlock) (hat : u1.ownBlock = u.ownBlock ∨ ∃ c, u1.ownBlock = some c ∧ W.heap.size ≤ c) : OutN W1 b u1 hs P :=
  ⟨h.len, fun i x hx => ⟨(h.rows i x hx).1, Kd.N_after (h.rows i x hx).2 hg hat⟩⟩
theorem OutN.snoc {W : World} {b b1 : Nat} {u : Value} {hs : List Hd} {P : List (List (List Int))} {A : Option Addr} {c : Nat} {L : List (List Int)} (h : OutN W b u hs P) (hn : Kd.N (Kd.slice 5 (Kd.int .u8)) 37 W b1 (fun k => b1 ≤ k) (.slice A L.length c) L) (hb : b ≤ b1) (hu : ∀ k, u.ownBlock = some k → k < b1) : OutN W b u (hs ++ [(A, L.length, c)]) (P ++ [L]) := by
  refine ⟨by simp [h.len], fun i x hx => ?_⟩
  rcases Nat.lt_or_ge i hs.length with hi | hi
  · rw [List.getElem?_append_left hi] at hx
    have e : (P ++ [L]).getD i [] = P.getD i [] := by rw [List.getD_eq_getElem?_getD, List.getElem?_append_left (by rw [← h.len]; exact hi), List.getD_eq_getElem?_getD]
    rw [e]
    exact h.rows i x hx
  · rw [List.getElem?_append_right hi] at hx
    have hz : i - hs.length = 0 := by
      rcases Nat.eq_zero_or_pos (i - hs.length) with h0 | h0
      · exact h0
      · rw [List.getElem?_eq_none (by simp; omega)] at hx; cases hx
    rw [hz] at hx
    obtain rfl := Option.some.inj hx
    have e : (P ++ [L]).getD i [] = L := by rw [List.getD_eq_getElem?_getD, List.getElem?_append_right (by rw [← h.len]; exact hi), ← h.len, hz]; rfl
    rw [e]
    exact ⟨rfl, Kd.N_mono (Kd.N_lower hn hb) (fun k hk => ⟨Nat.le_trans hb hk, fun e => by have := hu k e.symm; omega⟩)⟩
end Go.Proofs.Ytjnicooboiijgaa.Sg
end

section
/-
  The reference's Writer.whole.
-/
set_option linter.unusedVariables false
set_option linter.unusedSimpArgs false
namespace Go.Proofs.Ytjnicooboiijgaa.Sg
open Go.RowKit Go.Proofs.YtjnicooboiijgaaW.PrintWords Go.Proofs.YtjnicooboiijgaaW.PrintLast Go.Proofs.YtjnicooboiijgaaW.PrintMore Go.Proofs.Ytjnicooboiijgaa.PSg Go.Proofs.Ytjnicooboiijgaa.Gf Go.Proofs.Ytjnicooboiijgaa.Rs
theorem wr1b {i : Nat} (h : i ≤ 4000000) : wrap64 ((i : Int) + 1) = (i : Int) + 1 := by unfold wrap64; omega
theorem wr2b {i N o : Nat} (h : i * N = o) (ho : o ≤ 1000000000) : wrap64 ((i : Int) * (N : Int)) = (o : Int) := by
  rw [← Int.natCast_mul, h]
  unfold wrap64
  omega
theorem wr3b {i N o : Nat} (h : i * N = o) (ho : o + N ≤ 1000000000) : wrap64 (((i : Int) + 1) * (N : Int)) = (o : Int) + (N : Int) := by
  have e : ((i : Int) + 1) * (N : Int) = (o : Int) + (N : Int) := by rw [Int.add_mul, Int.one_mul, ← Int.natCast_mul, h]
  rw [e]
  unfold wrap64
  omega
theorem chunk_at {S : List Int} {N q j : Nat} : chunk (S.drop (q * N)) N j = chunk S N (q + j) := by
  unfold chunk
  rw [List.drop_drop, Nat.add_mul]
/-- Where a row of the call's own grows, of what was in w all but the block g stands. -/
theorem BK.grow {w0 w W W1 : World} {g : Nat} {α : Type} {d : Kd α} {e base : Nat} {v : Value} {xs : List α} (h : BK w0 w g W) (hv : d.R e W base (fun j => w.heap.size ≤ j) v xs) (hg : W.grownBy W1 v.ownBlock) (hb : Below w0.heap.size w0 W1) : BK w0 w g W1 :=
  ⟨hb, Nat.le_trans h.size hg.size, fun i hi hne hr => (hg.block i (Nat.lt_of_lt_of_le hi h.size) (fun e => by have := hv.1 i e.symm; omega)).trans (h.keep.2 i hi hne hr)⟩
def rwhole.T4 : Bool × List (List Nat × List Nat) := (true, [([], []), ([0], [0]), ([1], [1]), ([2], [2]), ([], []), ([4], [4]), ([5], [5]), ([6], [6]), ([], []), ([8], [8]), ([9], [9]), ([10], [10]), ([11], [11]), ([], []), ([13], [13]), ([14], [14]), ([15], [15]), ([], []), ([17], [17]), ([18], [18]), ([19], [19]), ([], []), ([20, 21], [20, 21]), ([], []), ([23], [23]), ([24], [24]), ([25], [25]), ([26], [26]), ([], []), ([27, 28], [27, 28]), ([16, 22, 29], [16, 22, 29]), ([3, 7, 12, 30], [3, 7, 12, 30]), ([31], [31]), ([32], [32]), ([32], [32]), ([33, 31, 0, 1, 2, 3, 4, 5, 6, 7, 8, 9, 10, 11, 12, 13, 14, 15, 16, 17, 18, 19, 20, 21, 22, 23, 24, 25, 26, 27, 28, 29, 30, 31, 32, 33], [33]), ([34, 35, 0, 1, 2, 3, 4, 5, 6, 7, 8, 9, 10, 11, 12, 13, 14, 15, 16, 17, 18, 19, 20, 21, 22, 23, 24, 25, 26, 27, 28, 29, 30, 31, 32, 33, 34, 35], [34])])
def rwhole.B4 : List Nat := [0, 1, 3, 7, 0, 16, 48, 112, 0, 256, 768, 1792, 3840, 0, 8192, 24576, 57344, 0, 131072, 393216, 917504, 0, 4063232, 0, 8388608, 25165824, 58720256, 125829120, 0, 528482304, 1073733632, 2147483647, 4294967295, 8589934591, 8589934591, 17179869183, 68719476735]
theorem rwhole.tab4 : rtab .any (opsOf Try.f38 4) = rwhole.T4 := by kernel_rfl
theorem rwhole.bits4 : waitsOk rwhole.T4.2 rwhole.B4 = true := by kernel_rfl
def rwhole3.T3 : Bool × List (List Nat × List Nat) := (true, [([], []), ([0], [0]), ([1], [1]), ([2], [2]), ([3], [3]), ([], []), ([4, 5], [4, 5]), ([], []), ([7], [7]), ([8], [8]), ([9], [9]), ([10], [10]), ([6, 11], [6, 11])])
def rwhole3.B3 : List Nat := [0, 1, 3, 7, 15, 0, 63, 0, 128, 384, 896, 1920, 4095]
theorem rwhole3.tab3 : rtab .any (opsOf Try.f38 3) = rwhole3.T3 := by kernel_rfl
theorem rwhole3.bits3 : waitsOk rwhole3.T3.2 rwhole3.B3 = true := by kernel_rfl
set_option maxHeartbeats 16000000 in
set_option maxRecDepth 100000 in
theorem rwhole38 (w0 w : World) (g k p s seg told N n c : Nat) (A : Option Addr) (S : List Int) (hf : Fits k p s) (hN : k * roomN s = N) (hg : w0.heap.size ≤ g) (hB : Below w0.heap.size w0 w) (hW : Rw w g k p s seg (.slice A n c) told) (hS : KB.R 5 w w0.heap.size (fun _ => True) (.slice A n c) S) (hx : bytes S = true) (hseg : seg < 18446744073709551616) (ht : told ≤ n / N) (hn : n ≤ N * (p - 1)) (hn9 : n ≤ 4000000) :
    Calls Try.prog 38 #[.pointer (some ⟨g, 0, none⟩)] w fun e w' => ∃ v hs, e = .returned v ∧ KH.R 51 w' w0.heap.size (fun j => w.heap.size ≤ j) v hs ∧ OutN w' w.heap.size v hs (rowsP s seg told k N (n / N - told) (S.drop (told * N))) ∧ Rw w' g k p s seg (.slice A n c) (n / N) ∧ KB.R 5 w' w0.heap.size (fun _ => True) (.slice A n c) S ∧ BK w0 w g w' := by
  have hrp := room_pos hf.s1 hf.s2
  have hrow := row_lt hf
  have hNp : 0 < N := by rw [← hN]; exact Nat.mul_pos (by have := hf.k1; omega) (by omega)
  rw [hN] at hrow
  have HRO := Aside0.mk (fun (W : World) => (by have := rrow29 W hf; rw [hN] at this; exact this : Calls Try.prog 29 #[.agg #[.int .i64 k, .int .i64 p, .int .i64 s]] W fun e w' => e = .returned (.int .i64 (N : Nat)) ∧ Below W.heap.size W w'))
  obtain ⟨x0, x1, x2, x3, x4, x5⟩ := hW.cells
  have HF := Aside0.mk hf
  have HGW := Aside0.mk (heap_lt hW)
  have HW := Aside0.mk hW
  have HS := Aside0.mk hS
  have HX := Aside0.mk hx
  have HB := Aside0.mk (BK.refl (g := g) hB)
  have HT := Aside0.mk ht
  have HNN := Aside0.mk hn
  clear hf hW hS hx hB ht hn
  go_enter Try.func38, Try.ntmps38
  go_wp2_with (go_at_call 29; refine Calls.mono (HRO.out _) ?_; rintro e w1 ⟨rfl, hb⟩; replace HW := Aside0.mk (HW.out.below hb); replace HS := Aside0.mk (Kd.R_below HS.out hb); replace HB := Aside0.mk (HB.out.then hb); clear hb)
  clear x0 x1 x2 x3 x4 x5
  go_loopw [3] (fun ov W => ∃ (m co : Nat) (Ao : Option Addr) (hs : List Hd), told + m ≤ n / N ∧ Aside0 (ov = .slice Ao m co) ∧ Aside0 (Rw W g k p s seg (.slice A n c) (told + m)) ∧ Aside0 (KH.R 51 W w0.heap.size (fun j => w.heap.size ≤ j) ov hs) ∧ Aside0 (OutN W w.heap.size ov hs (rowsP s seg told k N m (S.drop (told * N)))) ∧ Aside0 (KB.R 5 W w0.heap.size (fun _ => True) (.slice A n c) S) ∧ Aside0 (BK w0 w g W)) (fun ov _ => n / N - (match ov with | .slice _ l _ => l | _ => 0))
  case atStart => exact ⟨0, 0, none, [], HT.out, ⟨rfl⟩, HW, ⟨Kd.R_nil _ _ _ _ _⟩, ⟨OutN.nil _ _ _⟩, HS, HB⟩
  case round =>
    obtain ⟨m, co, Ao, hs, hm, HOV, HWm, HKm, HOm, HSm, HBm⟩ := hrel
    obtain ⟨x0, x1, x2, x3, x4, x5⟩ := HWm.out.cells
    obtain ⟨t, htt⟩ : ∃ t, told + m = t := ⟨_, rfl⟩
    rw [htt] at x5 hm HWm
    by_cases hmore : (t + 1) * N ≤ n
    · have h40 : t ≤ 4000000 := Nat.le_trans hm (Nat.le_trans (Nat.div_le_self _ _) hn9)
      obtain ⟨o, ho⟩ : ∃ o, t * N = o := ⟨_, rfl⟩
      have hoN : o + N ≤ n := by rw [← ho]; rw [Nat.succ_mul] at hmore; exact hmore
      have w1_ := wr1b h40
      have w3_ := wr3b ho (Nat.le_trans hoN (Nat.le_trans hn9 (by decide)))
      have hle : decide ((o : Int) + (N : Int) ≤ (n : Int)) = true := decide_eq_true (by clear w1_ w3_; omega)
      have hSl : S.length = n := (Kd.R_reads' HSm.out).1.symm
      have hnc := (Kd.R_reads' HSm.out).2.1
      obtain ⟨ba, cap, eva, hba, _⟩ := Kd.R_form HSm.out (by clear w1_ w3_; omega)
      obtain ⟨rfl, rfl⟩ : A = some ⟨ba, 0, none⟩ ∧ c = cap := by
        rw [hSl] at eva
        simpa using eva
      have hC0 := (Kd.R_reads' HSm.out).2.2
      rw [hSl] at hC0
      have hC1 := part_C (c := c) (a := o) (m := N) (ys := chunk S N t) hC0 hNp hoN hnc (by rw [← ho]; rfl)
      have htp : t + 1 < p := by
        have h1 : (t + 1) * N ≤ (p - 1) * N := by
          refine Nat.le_trans hmore (Nat.le_trans HNN.out ?_)
          rw [Nat.mul_comm]; exact Nat.le_refl _
        have h2 := Nat.le_of_mul_le_mul_right h1 hNp
        have := HF.out.p1
        clear w1_ w3_
        omega
      have H33 := Aside0.mk (fun (W : World) (hW : Below wr.heap.size wr W) => (by
        have h := rpages33 W HF.out seg (t + 1) hseg (Nat.le_add_left 1 t) htp (some ⟨ba, o, none⟩) N (c - o) (chunk S N t) (Kd.C_below hC1 hW) (by clear w1_ w3_; omega) (by rw [hN]; exact Nat.le_refl _) (chunk_bytes HX.out N t)
        rw [show ((t + 1 : Nat) : Int) = (t : Int) + 1 by push_cast; rfl, hN] at h
        exact h : Calls Try.prog 33 #[.agg #[.int .i64 k, .int .i64 p, .int .i64 s], .int .u64 seg, .int .i64 ((t : Int) + 1), .slice (some ⟨ba, o, none⟩) N (c - o)] W fun e w' => ∃ v, e = .returned (.tuple #[v, .int .i64 0]) ∧ Kd.N (Kd.slice 5 (Kd.int .u8)) 37 w' W.heap.size (fun j => W.heap.size ≤ j) v (rowP s seg (t + 1) k N (chunk S N t)) ∧ Below W.heap.size W w'))
      have w2_ := wr2b ho (Nat.le_trans (Nat.le_trans (Nat.le_add_right _ _) hoN) (Nat.le_trans hn9 (by decide)))
      have q1 : (0 : Int) ≤ (o : Int) := by clear w1_ w2_ w3_; omega
      have q2 : (o : Int) ≤ (o : Int) + (N : Int) := by clear w1_ w2_ w3_; omega
      have q3 : (o : Int) + (N : Int) ≤ (c : Int) := by clear w1_ w2_ w3_; omega
      have q4 : (o : Int) ≤ (c : Int) := by clear w1_ w2_ w3_; omega
      have q5 : (0 : Int) ≤ (o : Int) + (N : Int) := by clear w1_ w2_ w3_; omega
      have qc : ¬ c = o := by clear w1_ w2_ w3_; omega
      have qd : ((o : Int) + (N : Int)).toNat - o = N := by clear w1_ w2_ w3_; omega
      have HTM := Aside0.mk (show t < n / N from (whole_more hNp).1 hmore)
      have HT4 := Aside0.mk h40
      have HTT := Aside0.mk htt
      have HM4 := Aside0.mk (show m ≤ 4000000 by clear w1_ w2_ w3_; omega)
      have HCH := Aside0.mk hSl
      clear hmore hm htt hSl hC0 hC1 htp eva hba hnc hoN h40
      go_upto_region 3 with fail
      refine start_ (n := 13) (S := fun w' => w'.cell? ⟨g, 0, none⟩ = some (.int .i64 (k : Nat)) ∧ w'.cell? ⟨g, 1, none⟩ = some (.int .i64 (p : Nat)) ∧ w'.cell? ⟨g, 2, none⟩ = some (.int .i64 (s : Nat)) ∧ w'.cell? ⟨g, 3, none⟩ = some (.int .u64 (seg : Nat)) ∧ w'.cell? ⟨g, 4, none⟩ = some (.slice (some ⟨ba, 0, none⟩) n c) ∧ w'.cell? ⟨g, 5, none⟩ = some (.int .i64 (t : Nat))) (ds := []) #[false, false, false, false, false, false, false, false, false, false, false, false, false] (by kernel_rfl) rfl rfl ⟨x0, x1, x2, x3, x4, x5⟩ (fun hHeld => ?_)
      refine with_tabW rwhole3.tab3 rwhole3.bits3 (fun HT_ HW_ => ?_)
      refine pure_ (i := 0) (N := some 12) (v := ?_) (a' := ?_) #[true, false, false, false, false, false, false, false, false, false, false, false, false] rfl rfl (any_of HT_.out (by kernel_rfl)) (fun _ _ _ h => h) (Or.inl ⟨by rfl, ?_⟩) ?_ ?_
      rotate_left
      · intro w'
        go_simp
        with_reducible rfl
      rotate_left
      · simp only [Act.put, List.setIfInBounds_toArray, List.set_cons_zero, List.set_cons_succ, i64_w, i32_w]
        rfl
      refine pure_ (i := 1) (N := some 13) (v := ?_) (a' := ?_) #[true, true, false, false, false, false, false, false, false, false, false, false, false] rfl rfl (any_of HT_.out (by kernel_rfl)) (fun _ _ _ h => h) (Or.inl ⟨by rfl, ?_⟩) ?_ ?_
      rotate_left
      · intro w'
        go_simp
        with_reducible rfl
      rotate_left
      · simp only [Act.put, List.setIfInBounds_toArray, List.set_cons_zero, List.set_cons_succ, i64_w, i32_w]
        rfl
      refine pure_ (i := 2) (N := some 14) (v := ?_) (a' := ?_) #[true, true, true, false, false, false, false, false, false, false, false, false, false] rfl rfl (any_of HT_.out (by kernel_rfl)) (fun _ _ _ h => h) (Or.inl ⟨by rfl, ?_⟩) ?_ ?_
      rotate_left
      · intro w'
        go_simp
        with_reducible rfl
      rotate_left
      · simp only [Act.put, List.setIfInBounds_toArray, List.set_cons_zero, List.set_cons_succ, i64_w, i32_w]
        rfl
      refine pure_ (i := 5) (N := some 17) (v := ?_) (a' := ?_) #[true, true, true, false, false, true, false, false, false, false, false, false, false] rfl rfl (any_of HT_.out (by kernel_rfl)) (fun _ _ _ h => h) (Or.inl ⟨by rfl, ?_⟩) ?_ ?_
      rotate_left
      · intro w'
        go_simp
        with_reducible rfl
      rotate_left
      · simp only [Act.put, List.setIfInBounds_toArray, List.set_cons_zero, List.set_cons_succ, i64_w, i32_w]
        rfl
      refine pure_ (i := 7) (N := some 19) (v := ?_) (a' := ?_) #[true, true, true, false, false, true, false, true, false, false, false, false, false] rfl rfl (any_of HT_.out (by kernel_rfl)) (fun _ _ _ h => h) (Or.inl ⟨by rfl, ?_⟩) ?_ ?_
      rotate_left
      · intro w'
        go_simp
        with_reducible rfl
      rotate_left
      · simp only [Act.put, List.setIfInBounds_toArray, List.set_cons_zero, List.set_cons_succ, i64_w, i32_w]
        rfl
      refine pure_ (i := 8) (N := some 20) (v := ?_) (a' := ?_) #[true, true, true, false, false, true, false, true, true, false, false, false, false] rfl rfl (any_of HT_.out (by kernel_rfl)) (fun _ _ _ h => h) (Or.inl ⟨by rfl, ?_⟩) ?_ ?_
      rotate_left
      · intro w'
        go_simp
        with_reducible rfl
      rotate_left
      · simp only [Act.put, List.setIfInBounds_toArray, List.set_cons_zero, List.set_cons_succ, i64_w, i32_w]
        rfl
      refine pure_ (i := 9) (N := some 21) (v := ?_) (a' := ?_) #[true, true, true, false, false, true, false, true, true, true, false, false, false] rfl rfl (any_of HT_.out (by kernel_rfl)) (fun _ _ _ h => h) (Or.inl ⟨by rfl, ?_⟩) ?_ ?_
      rotate_left
      · intro w'
        go_simp
        with_reducible rfl
      rotate_left
      · simp only [Act.put, List.setIfInBounds_toArray, List.set_cons_zero, List.set_cons_succ, i64_w, i32_w]
        rfl
      refine take_ (i := 3) (N := some 15) (v := ?_) (a' := ?_) #[true, true, true, true, false, true, false, true, true, true, false, false, false] rfl rfl (take_ofW HT_.out HW_.out (by kernel_rfl)) (fun _ _ _ h => h) (Or.inl ⟨by rfl, ?_⟩) hHeld ?_ ?_
      rotate_left
      · rintro w' ⟨s0, s1, s2, s3, s4, s5⟩
        go_simp
        with_reducible rfl
      rotate_left
      · simp only [Act.put, List.setIfInBounds_toArray, List.set_cons_zero, List.set_cons_succ, i64_w, i32_w]
        rfl
      refine pure_ (i := 4) (N := some 16) (v := ?_) (a' := ?_) #[true, true, true, true, true, true, false, true, true, true, false, false, false] rfl rfl (any_of HT_.out (by kernel_rfl)) (fun _ _ _ h => h) (Or.inl ⟨by rfl, ?_⟩) ?_ ?_
      rotate_left
      · intro w'
        go_simp
        with_reducible rfl
      rotate_left
      · simp only [Act.put, List.setIfInBounds_toArray, List.set_cons_zero, List.set_cons_succ, i64_w, i32_w]
        rfl
      refine pure_ (i := 6) (N := some 18) (v := ?_) (a' := ?_) #[true, true, true, true, true, true, true, true, true, true, false, false, false] rfl rfl (any_of HT_.out (by kernel_rfl)) (fun _ _ _ h => h) (Or.inl ⟨by rfl, ?_⟩) ?_ ?_
      rotate_left
      · intro w'
        go_simp
        with_reducible rfl
      rotate_left
      · simp only [Act.put, List.setIfInBounds_toArray, List.set_cons_zero, List.set_cons_succ, i64_w, i32_w]
        rfl
      refine take_ (i := 10) (N := some 22) (v := ?_) (a' := ?_) #[true, true, true, true, true, true, true, true, true, true, true, false, false] rfl rfl (take_ofW HT_.out HW_.out (by kernel_rfl)) (fun _ _ _ h => h) (Or.inl ⟨by rfl, ?_⟩) hHeld ?_ ?_
      rotate_left
      · rintro w' ⟨s0, s1, s2, s3, s4, s5⟩
        go_simp
        with_reducible rfl
      rotate_left
      · simp only [Act.put, List.setIfInBounds_toArray, List.set_cons_zero, List.set_cons_succ, i64_w, i32_w]
        rfl
      refine pure_ (i := 11) (N := some 23) (v := ?_) (a' := ?_) #[true, true, true, true, true, true, true, true, true, true, true, true, false] rfl rfl (any_of HT_.out (by kernel_rfl)) (fun _ _ _ h => h) (Or.inl ⟨by rfl, ?_⟩) ?_ ?_
      rotate_left
      · intro w'
        go_simp
        with_reducible rfl
      rotate_left
      · simp only [Act.put, List.setIfInBounds_toArray, List.set_cons_zero, List.set_cons_succ, i64_w, i32_w]
        rfl
      refine pure_ (i := 12) (N := some 24) (v := ?_) (a' := ?_) #[true, true, true, true, true, true, true, true, true, true, true, true, true] rfl rfl (any_of HT_.out (by kernel_rfl)) (fun _ _ _ h => h) (Or.inl ⟨by rfl, ?_⟩) ?_ ?_
      rotate_left
      · intro w'
        go_simp
        with_reducible rfl
      rotate_left
      · simp only [Act.put, List.setIfInBounds_toArray, List.set_cons_zero, List.set_cons_succ, i64_w, i32_w]
        rfl
      refine done_ (done_of HT_.out (by kernel_rfl)) ?_
      go_upto_region 4 with fail
      obtain ⟨z0, z1, z2, z3, z4, z5⟩ := hHeld
      refine start_ (n := 37) (S := fun w' => w'.cell? ⟨g, 0, none⟩ = some (.int .i64 (k : Nat)) ∧ w'.cell? ⟨g, 1, none⟩ = some (.int .i64 (p : Nat)) ∧ w'.cell? ⟨g, 2, none⟩ = some (.int .i64 (s : Nat)) ∧ w'.cell? ⟨g, 3, none⟩ = some (.int .u64 (seg : Nat)) ∧ w'.cell? ⟨g, 4, none⟩ = some (.slice (some ⟨ba, 0, none⟩) n c) ∧ w'.cell? ⟨g, 5, none⟩ = some (.int .i64 (t : Nat))) (ds := []) #[false, false, false, false, false, false, false, false, false, false, false, false, false, false, false, false, false, false, false, false, false, false, false, false, false, false, false, false, false, false, false, false, false, false, false, false, false] (by kernel_rfl) rfl rfl ⟨z0, z1, z2, z3, z4, z5⟩ (fun hHeld => ?_)
      refine with_tabW rwhole.tab4 rwhole.bits4 (fun HT_ HW_ => ?_)
      refine pure_ (i := 0) (N := some 26) (v := ?_) (a' := ?_) #[true, false, false, false, false, false, false, false, false, false, false, false, false, false, false, false, false, false, false, false, false, false, false, false, false, false, false, false, false, false, false, false, false, false, false, false, false] rfl rfl (any_of HT_.out (by kernel_rfl)) (fun _ _ _ h => h) (Or.inl ⟨by rfl, ?_⟩) ?_ ?_
      rotate_left
      · intro w'
        go_simp
        with_reducible rfl
      rotate_left
      · simp only [Act.put, List.setIfInBounds_toArray, List.set_cons_zero, List.set_cons_succ, i64_w, i32_w]
        rfl
      refine pure_ (i := 1) (N := some 27) (v := ?_) (a' := ?_) #[true, true, false, false, false, false, false, false, false, false, false, false, false, false, false, false, false, false, false, false, false, false, false, false, false, false, false, false, false, false, false, false, false, false, false, false, false] rfl rfl (any_of HT_.out (by kernel_rfl)) (fun _ _ _ h => h) (Or.inl ⟨by rfl, ?_⟩) ?_ ?_
      rotate_left
      · intro w'
        go_simp
        with_reducible rfl
      rotate_left
      · simp only [Act.put, List.setIfInBounds_toArray, List.set_cons_zero, List.set_cons_succ, i64_w, i32_w]
        rfl
      refine pure_ (i := 2) (N := some 28) (v := ?_) (a' := ?_) #[true, true, true, false, false, false, false, false, false, false, false, false, false, false, false, false, false, false, false, false, false, false, false, false, false, false, false, false, false, false, false, false, false, false, false, false, false] rfl rfl (any_of HT_.out (by kernel_rfl)) (fun _ _ _ h => h) (Or.inl ⟨by rfl, ?_⟩) ?_ ?_
      rotate_left
      · intro w'
        go_simp
        with_reducible rfl
      rotate_left
      · simp only [Act.put, List.setIfInBounds_toArray, List.set_cons_zero, List.set_cons_succ, i64_w, i32_w]
        rfl
      refine pure_ (i := 4) (N := some 30) (v := ?_) (a' := ?_) #[true, true, true, false, true, false, false, false, false, false, false, false, false, false, false, false, false, false, false, false, false, false, false, false, false, false, false, false, false, false, false, false, false, false, false, false, false] rfl rfl (any_of HT_.out (by kernel_rfl)) (fun _ _ _ h => h) (Or.inl ⟨by rfl, ?_⟩) ?_ ?_
      rotate_left
      · intro w'
        go_simp
        with_reducible rfl
      rotate_left
      · simp only [Act.put, List.setIfInBounds_toArray, List.set_cons_zero, List.set_cons_succ, i64_w, i32_w]
        rfl
      refine pure_ (i := 5) (N := some 31) (v := ?_) (a' := ?_) #[true, true, true, false, true, true, false, false, false, false, false, false, false, false, false, false, false, false, false, false, false, false, false, false, false, false, false, false, false, false, false, false, false, false, false, false, false] rfl rfl (any_of HT_.out (by kernel_rfl)) (fun _ _ _ h => h) (Or.inl ⟨by rfl, ?_⟩) ?_ ?_
      rotate_left
      · intro w'
        go_simp
        with_reducible rfl
      rotate_left
      · simp only [Act.put, List.setIfInBounds_toArray, List.set_cons_zero, List.set_cons_succ, i64_w, i32_w]
        rfl
      refine pure_ (i := 6) (N := some 32) (v := ?_) (a' := ?_) #[true, true, true, false, true, true, true, false, false, false, false, false, false, false, false, false, false, false, false, false, false, false, false, false, false, false, false, false, false, false, false, false, false, false, false, false, false] rfl rfl (any_of HT_.out (by kernel_rfl)) (fun _ _ _ h => h) (Or.inl ⟨by rfl, ?_⟩) ?_ ?_
      rotate_left
      · intro w'
        go_simp
        with_reducible rfl
      rotate_left
      · simp only [Act.put, List.setIfInBounds_toArray, List.set_cons_zero, List.set_cons_succ, i64_w, i32_w]
        rfl
      refine pure_ (i := 8) (N := some 34) (v := ?_) (a' := ?_) #[true, true, true, false, true, true, true, false, true, false, false, false, false, false, false, false, false, false, false, false, false, false, false, false, false, false, false, false, false, false, false, false, false, false, false, false, false] rfl rfl (any_of HT_.out (by kernel_rfl)) (fun _ _ _ h => h) (Or.inl ⟨by rfl, ?_⟩) ?_ ?_
      rotate_left
      · intro w'
        go_simp
        with_reducible rfl
      rotate_left
      · simp only [Act.put, List.setIfInBounds_toArray, List.set_cons_zero, List.set_cons_succ, i64_w, i32_w]
        rfl
      refine pure_ (i := 9) (N := some 35) (v := ?_) (a' := ?_) #[true, true, true, false, true, true, true, false, true, true, false, false, false, false, false, false, false, false, false, false, false, false, false, false, false, false, false, false, false, false, false, false, false, false, false, false, false] rfl rfl (any_of HT_.out (by kernel_rfl)) (fun _ _ _ h => h) (Or.inl ⟨by rfl, ?_⟩) ?_ ?_
      rotate_left
      · intro w'
        go_simp
        with_reducible rfl
      rotate_left
      · simp only [Act.put, List.setIfInBounds_toArray, List.set_cons_zero, List.set_cons_succ, i64_w, i32_w]
        rfl
      refine pure_ (i := 10) (N := some 36) (v := ?_) (a' := ?_) #[true, true, true, false, true, true, true, false, true, true, true, false, false, false, false, false, false, false, false, false, false, false, false, false, false, false, false, false, false, false, false, false, false, false, false, false, false] rfl rfl (any_of HT_.out (by kernel_rfl)) (fun _ _ _ h => h) (Or.inl ⟨by rfl, ?_⟩) ?_ ?_
      rotate_left
      · intro w'
        go_simp
        with_reducible rfl
      rotate_left
      · simp only [Act.put, List.setIfInBounds_toArray, List.set_cons_zero, List.set_cons_succ, i64_w, i32_w]
        rfl
      refine pure_ (i := 13) (N := some 39) (v := ?_) (a' := ?_) #[true, true, true, false, true, true, true, false, true, true, true, false, false, true, false, false, false, false, false, false, false, false, false, false, false, false, false, false, false, false, false, false, false, false, false, false, false] rfl rfl (any_of HT_.out (by kernel_rfl)) (fun _ _ _ h => h) (Or.inl ⟨by rfl, ?_⟩) ?_ ?_
      rotate_left
      · intro w'
        go_simp
        with_reducible rfl
      rotate_left
      · simp only [Act.put, List.setIfInBounds_toArray, List.set_cons_zero, List.set_cons_succ, i64_w, i32_w]
        rfl
      refine pure_ (i := 14) (N := some 40) (v := ?_) (a' := ?_) #[true, true, true, false, true, true, true, false, true, true, true, false, false, true, true, false, false, false, false, false, false, false, false, false, false, false, false, false, false, false, false, false, false, false, false, false, false] rfl rfl (any_of HT_.out (by kernel_rfl)) (fun _ _ _ h => h) (Or.inl ⟨by rfl, ?_⟩) ?_ ?_
      rotate_left
      · intro w'
        go_simp
        with_reducible rfl
      rotate_left
      · simp only [Act.put, List.setIfInBounds_toArray, List.set_cons_zero, List.set_cons_succ, i64_w, i32_w]
        rfl
      refine pure_ (i := 15) (N := some 41) (v := ?_) (a' := ?_) #[true, true, true, false, true, true, true, false, true, true, true, false, false, true, true, true, false, false, false, false, false, false, false, false, false, false, false, false, false, false, false, false, false, false, false, false, false] rfl rfl (any_of HT_.out (by kernel_rfl)) (fun _ _ _ h => h) (Or.inl ⟨by rfl, ?_⟩) ?_ ?_
      rotate_left
      · intro w'
        go_simp
        with_reducible rfl
      rotate_left
      · simp only [Act.put, List.setIfInBounds_toArray, List.set_cons_zero, List.set_cons_succ, i64_w, i32_w]
        rfl
      refine pure_ (i := 17) (N := some 43) (v := ?_) (a' := ?_) #[true, true, true, false, true, true, true, false, true, true, true, false, false, true, true, true, false, true, false, false, false, false, false, false, false, false, false, false, false, false, false, false, false, false, false, false, false] rfl rfl (any_of HT_.out (by kernel_rfl)) (fun _ _ _ h => h) (Or.inl ⟨by rfl, ?_⟩) ?_ ?_
      rotate_left
      · intro w'
        go_simp
        with_reducible rfl
      rotate_left
      · simp only [Act.put, List.setIfInBounds_toArray, List.set_cons_zero, List.set_cons_succ, i64_w, i32_w]
        rfl
      refine pure_ (i := 18) (N := some 44) (v := ?_) (a' := ?_) #[true, true, true, false, true, true, true, false, true, true, true, false, false, true, true, true, false, true, true, false, false, false, false, false, false, false, false, false, false, false, false, false, false, false, false, false, false] rfl rfl (any_of HT_.out (by kernel_rfl)) (fun _ _ _ h => h) (Or.inl ⟨by rfl, ?_⟩) ?_ ?_
      rotate_left
      · intro w'
        go_simp
        with_reducible rfl
      rotate_left
      · simp only [Act.put, List.setIfInBounds_toArray, List.set_cons_zero, List.set_cons_succ, i64_w, i32_w]
        rfl
      refine pure_ (i := 19) (N := some 45) (v := ?_) (a' := ?_) #[true, true, true, false, true, true, true, false, true, true, true, false, false, true, true, true, false, true, true, true, false, false, false, false, false, false, false, false, false, false, false, false, false, false, false, false, false] rfl rfl (any_of HT_.out (by kernel_rfl)) (fun _ _ _ h => h) (Or.inl ⟨by rfl, ?_⟩) ?_ ?_
      rotate_left
      · intro w'
        go_simp
        with_reducible rfl
      rotate_left
      · simp only [Act.put, List.setIfInBounds_toArray, List.set_cons_zero, List.set_cons_succ, i64_w, i32_w]
        rfl
      refine pure_ (i := 21) (N := some 47) (v := ?_) (a' := ?_) #[true, true, true, false, true, true, true, false, true, true, true, false, false, true, true, true, false, true, true, true, false, true, false, false, false, false, false, false, false, false, false, false, false, false, false, false, false] rfl rfl (any_of HT_.out (by kernel_rfl)) (fun _ _ _ h => h) (Or.inl ⟨by rfl, ?_⟩) ?_ ?_
      rotate_left
      · intro w'
        go_simp
        with_reducible rfl
      rotate_left
      · simp only [Act.put, List.setIfInBounds_toArray, List.set_cons_zero, List.set_cons_succ, i64_w, i32_w]
        rfl
      refine pure_ (i := 23) (N := some 49) (v := ?_) (a' := ?_) #[true, true, true, false, true, true, true, false, true, true, true, false, false, true, true, true, false, true, true, true, false, true, false, true, false, false, false, false, false, false, false, false, false, false, false, false, false] rfl rfl (any_of HT_.out (by kernel_rfl)) (fun _ _ _ h => h) (Or.inl ⟨by rfl, ?_⟩) ?_ ?_
      rotate_left
      · intro w'
        go_simp
        with_reducible rfl
      rotate_left
      · simp only [Act.put, List.setIfInBounds_toArray, List.set_cons_zero, List.set_cons_succ, i64_w, i32_w]
        rfl
      refine pure_ (i := 24) (N := some 50) (v := ?_) (a' := ?_) #[true, true, true, false, true, true, true, false, true, true, true, false, false, true, true, true, false, true, true, true, false, true, false, true, true, false, false, false, false, false, false, false, false, false, false, false, false] rfl rfl (any_of HT_.out (by kernel_rfl)) (fun _ _ _ h => h) (Or.inl ⟨by rfl, ?_⟩) ?_ ?_
      rotate_left
      · intro w'
        go_simp
        with_reducible rfl
      rotate_left
      · simp only [Act.put, List.setIfInBounds_toArray, List.set_cons_zero, List.set_cons_succ, i64_w, i32_w]
        rfl
      refine pure_ (i := 25) (N := some 51) (v := ?_) (a' := ?_) #[true, true, true, false, true, true, true, false, true, true, true, false, false, true, true, true, false, true, true, true, false, true, false, true, true, true, false, false, false, false, false, false, false, false, false, false, false] rfl rfl (any_of HT_.out (by kernel_rfl)) (fun _ _ _ h => h) (Or.inl ⟨by rfl, ?_⟩) ?_ ?_
      rotate_left
      · intro w'
        go_simp
        with_reducible rfl
      rotate_left
      · simp only [Act.put, List.setIfInBounds_toArray, List.set_cons_zero, List.set_cons_succ, i64_w, i32_w]
        rfl
      refine pure_ (i := 28) (N := some 54) (v := ?_) (a' := ?_) #[true, true, true, false, true, true, true, false, true, true, true, false, false, true, true, true, false, true, true, true, false, true, false, true, true, true, false, false, true, false, false, false, false, false, false, false, false] rfl rfl (any_of HT_.out (by kernel_rfl)) (fun _ _ _ h => h) (Or.inl ⟨by rfl, ?_⟩) ?_ ?_
      rotate_left
      · intro w'
        go_simp
        with_reducible rfl
      rotate_left
      · simp only [Act.put, List.setIfInBounds_toArray, List.set_cons_zero, List.set_cons_succ, i64_w, i32_w]
        rfl
      refine take_ (i := 3) (N := some 29) (v := ?_) (a' := ?_) #[true, true, true, true, true, true, true, false, true, true, true, false, false, true, true, true, false, true, true, true, false, true, false, true, true, true, false, false, true, false, false, false, false, false, false, false, false] rfl rfl (take_ofW HT_.out HW_.out (by kernel_rfl)) (fun _ _ _ h => h) (Or.inl ⟨by rfl, ?_⟩) hHeld ?_ ?_
      rotate_left
      · rintro w' ⟨s0, s1, s2, s3, s4, s5⟩
        go_simp
        with_reducible rfl
      rotate_left
      · simp only [Act.put, List.setIfInBounds_toArray, List.set_cons_zero, List.set_cons_succ, i64_w, i32_w]
        rfl
      refine take_ (i := 7) (N := some 33) (v := ?_) (a' := ?_) #[true, true, true, true, true, true, true, true, true, true, true, false, false, true, true, true, false, true, true, true, false, true, false, true, true, true, false, false, true, false, false, false, false, false, false, false, false] rfl rfl (take_ofW HT_.out HW_.out (by kernel_rfl)) (fun _ _ _ h => h) (Or.inl ⟨by rfl, ?_⟩) hHeld ?_ ?_
      rotate_left
      · rintro w' ⟨s0, s1, s2, s3, s4, s5⟩
        go_simp
        with_reducible rfl
      rotate_left
      · simp only [Act.put, List.setIfInBounds_toArray, List.set_cons_zero, List.set_cons_succ, i64_w, i32_w]
        rfl
      refine take_ (i := 11) (N := some 37) (v := ?_) (a' := ?_) #[true, true, true, true, true, true, true, true, true, true, true, true, false, true, true, true, false, true, true, true, false, true, false, true, true, true, false, false, true, false, false, false, false, false, false, false, false] rfl rfl (take_ofW HT_.out HW_.out (by kernel_rfl)) (fun _ _ _ h => h) (Or.inl ⟨by rfl, ?_⟩) hHeld ?_ ?_
      rotate_left
      · rintro w' ⟨s0, s1, s2, s3, s4, s5⟩
        go_simp
        with_reducible rfl
      rotate_left
      · simp only [Act.put, List.setIfInBounds_toArray, List.set_cons_zero, List.set_cons_succ, i64_w, i32_w]
        rfl
      refine pure_ (i := 12) (N := some 38) (v := ?_) (a' := ?_) #[true, true, true, true, true, true, true, true, true, true, true, true, true, true, true, true, false, true, true, true, false, true, false, true, true, true, false, false, true, false, false, false, false, false, false, false, false] rfl rfl (any_of HT_.out (by kernel_rfl)) (fun _ _ _ h => h) (Or.inl ⟨by rfl, ?_⟩) ?_ ?_
      rotate_left
      · intro w'
        go_simp
        with_reducible rfl
      rotate_left
      · simp only [Act.put, List.setIfInBounds_toArray, List.set_cons_zero, List.set_cons_succ, i64_w, i32_w]
        rfl
      refine take_ (i := 16) (N := some 42) (v := ?_) (a' := ?_) #[true, true, true, true, true, true, true, true, true, true, true, true, true, true, true, true, true, true, true, true, false, true, false, true, true, true, false, false, true, false, false, false, false, false, false, false, false] rfl rfl (take_ofW HT_.out HW_.out (by kernel_rfl)) (fun _ _ _ h => h) (Or.inl ⟨by rfl, ?_⟩) hHeld ?_ ?_
      rotate_left
      · rintro w' ⟨s0, s1, s2, s3, s4, s5⟩
        go_simp
        with_reducible rfl
      rotate_left
      · simp only [Act.put, List.setIfInBounds_toArray, List.set_cons_zero, List.set_cons_succ, i64_w, i32_w]
        rfl
      refine take_ (i := 20) (N := some 46) (v := ?_) (a' := ?_) #[true, true, true, true, true, true, true, true, true, true, true, true, true, true, true, true, true, true, true, true, true, true, false, true, true, true, false, false, true, false, false, false, false, false, false, false, false] rfl rfl (take_ofW HT_.out HW_.out (by kernel_rfl)) (fun _ _ _ h => h) (Or.inl ⟨by rfl, ?_⟩) hHeld ?_ ?_
      rotate_left
      · rintro w' ⟨s0, s1, s2, s3, s4, s5⟩
        go_simp
        with_reducible rfl
      rotate_left
      · simp only [Act.put, List.setIfInBounds_toArray, List.set_cons_zero, List.set_cons_succ, i64_w, i32_w]
        rfl
      refine pure_ (i := 22) (N := some 48) (v := ?_) (a' := ?_) #[true, true, true, true, true, true, true, true, true, true, true, true, true, true, true, true, true, true, true, true, true, true, true, true, true, true, false, false, true, false, false, false, false, false, false, false, false] rfl rfl (any_of HT_.out (by kernel_rfl)) (fun _ _ _ h => h) (Or.inl ⟨by rfl, ?_⟩) ?_ ?_
      rotate_left
      · intro w'
        go_simp
        with_reducible rfl
      rotate_left
      · simp only [Act.put, List.setIfInBounds_toArray, List.set_cons_zero, List.set_cons_succ, i64_w, i32_w]
        rfl
      refine take_ (i := 26) (N := some 52) (v := ?_) (a' := ?_) #[true, true, true, true, true, true, true, true, true, true, true, true, true, true, true, true, true, true, true, true, true, true, true, true, true, true, true, false, true, false, false, false, false, false, false, false, false] rfl rfl (take_ofW HT_.out HW_.out (by kernel_rfl)) (fun _ _ _ h => h) (Or.inl ⟨by rfl, ?_⟩) hHeld ?_ ?_
      rotate_left
      · rintro w' ⟨s0, s1, s2, s3, s4, s5⟩
        go_simp
        with_reducible rfl
      rotate_left
      · simp only [Act.put, List.setIfInBounds_toArray, List.set_cons_zero, List.set_cons_succ, i64_w, i32_w]
        rfl
      refine pure_ (i := 27) (N := some 53) (v := ?_) (a' := ?_) #[true, true, true, true, true, true, true, true, true, true, true, true, true, true, true, true, true, true, true, true, true, true, true, true, true, true, true, true, true, false, false, false, false, false, false, false, false] rfl rfl (any_of HT_.out (by kernel_rfl)) (fun _ _ _ h => h) (Or.inl ⟨by rfl, ?_⟩) ?_ ?_
      rotate_left
      · intro w'
        go_simp
        with_reducible rfl
      rotate_left
      · simp only [Act.put, List.setIfInBounds_toArray, List.set_cons_zero, List.set_cons_succ, i64_w, i32_w]
        rfl
      refine pure_ (i := 29) (N := some 55) (v := ?_) (a' := ?_) #[true, true, true, true, true, true, true, true, true, true, true, true, true, true, true, true, true, true, true, true, true, true, true, true, true, true, true, true, true, true, false, false, false, false, false, false, false] rfl rfl (any_of HT_.out (by kernel_rfl)) (fun _ _ _ h => h) (Or.inl ⟨by rfl, ?_⟩) ?_ ?_
      rotate_left
      · intro w'
        go_simp
        with_reducible rfl
      rotate_left
      · simp only [Act.put, List.setIfInBounds_toArray, List.set_cons_zero, List.set_cons_succ, i64_w, i32_w]
        rfl
      refine pure_ (i := 30) (N := some 56) (v := ?_) (a' := ?_) #[true, true, true, true, true, true, true, true, true, true, true, true, true, true, true, true, true, true, true, true, true, true, true, true, true, true, true, true, true, true, true, false, false, false, false, false, false] rfl rfl (any_of HT_.out (by kernel_rfl)) (fun _ _ _ h => h) (Or.inl ⟨by rfl, ?_⟩) ?_ ?_
      rotate_left
      · intro w'
        go_simp
        with_reducible rfl
      rotate_left
      · simp only [Act.put, List.setIfInBounds_toArray, List.set_cons_zero, List.set_cons_succ, i64_w, i32_w]
        rfl
      refine one_ (i := 31) (N := some 57) #[true, true, true, true, true, true, true, true, true, true, true, true, true, true, true, true, true, true, true, true, true, true, true, true, true, true, true, true, true, true, true, true, false, false, false, false, false] rfl rfl (one_of HT_.out (by kernel_rfl)) (by decide) (fun K hK => ?_)
      refine goes_ Try.func33 (by kernel_rfl) rfl #[.agg #[.int .i64 (k : Nat), .int .i64 (p : Nat), .int .i64 (s : Nat)], .int .u64 (seg : Nat), .int .i64 (wrap64 ((t : Int) + 1)), .slice (some ⟨ba, o, none⟩) N (c - o)] (by rfl) rfl rfl (by simp only [List.map_toArray, List.map_cons, List.map_nil]; rfl) ?_
      refine Calls.mono ((by rw [w1_]; exact H33.out _ (below_drew (below_drew (Below.refl _ _))))) ?_
      rintro e w5 ⟨v5, rfl, hV5, hb⟩
      refine ⟨_, rfl, ?_⟩
      refine hK.out _ _ ⟨pw_cell_below hb hHeld.1, pw_cell_below hb hHeld.2.1, pw_cell_below hb hHeld.2.2.1, pw_cell_below hb hHeld.2.2.2.1, pw_cell_below hb hHeld.2.2.2.2.1, pw_cell_below hb hHeld.2.2.2.2.2⟩ (fun hHeld => ?_)
      clear hK K
      refine norm_ (a' := ?_) ?_ ?_
      rotate_left
      · show Act.put _ (some 57) _ = _
        simp only [Act.put, List.setIfInBounds_toArray, List.set_cons_zero, List.set_cons_succ, i64_w, i32_w]
        rfl
      refine pure_ (i := 32) (N := some 25) (v := ?_) (a' := ?_) #[true, true, true, true, true, true, true, true, true, true, true, true, true, true, true, true, true, true, true, true, true, true, true, true, true, true, true, true, true, true, true, true, true, false, false, false, false] rfl rfl (any_of HT_.out (by kernel_rfl)) (fun _ _ _ h => h) (Or.inl ⟨by rfl, ?_⟩) ?_ ?_
      rotate_left
      · intro w'
        go_simp
        with_reducible rfl
      rotate_left
      · simp only [Act.put, List.setIfInBounds_toArray, List.set_cons_zero, List.set_cons_succ, i64_w, i32_w]
        rfl
      refine pure_ (i := 33) (N := some 58) (v := ?_) (a' := ?_) #[true, true, true, true, true, true, true, true, true, true, true, true, true, true, true, true, true, true, true, true, true, true, true, true, true, true, true, true, true, true, true, true, true, true, false, false, false] rfl rfl (any_of HT_.out (by kernel_rfl)) (fun _ _ _ h => h) (Or.inl ⟨by rfl, ?_⟩) ?_ ?_
      rotate_left
      · intro w'
        go_simp
        with_reducible rfl
      rotate_left
      · simp only [Act.put, List.setIfInBounds_toArray, List.set_cons_zero, List.set_cons_succ, i64_w, i32_w]
        rfl
      refine pure_ (i := 34) (N := some 59) (v := ?_) (a' := ?_) #[true, true, true, true, true, true, true, true, true, true, true, true, true, true, true, true, true, true, true, true, true, true, true, true, true, true, true, true, true, true, true, true, true, true, true, false, false] rfl rfl (any_of HT_.out (by kernel_rfl)) (fun _ _ _ h => h) (Or.inl ⟨by rfl, ?_⟩) ?_ ?_
      rotate_left
      · intro w'
        go_simp
        with_reducible rfl
      rotate_left
      · simp only [Act.put, List.setIfInBounds_toArray, List.set_cons_zero, List.set_cons_succ, i64_w, i32_w]
        rfl
      refine pure_ (i := 35) (N := some 5) (v := ?_) (a' := ?_) #[true, true, true, true, true, true, true, true, true, true, true, true, true, true, true, true, true, true, true, true, true, true, true, true, true, true, true, true, true, true, true, true, true, true, true, true, false] rfl rfl (any_of HT_.out (by kernel_rfl)) (fun _ _ _ h => h) (Or.inl ⟨by rfl, ?_⟩) ?_ ?_
      rotate_left
      · intro w'
        go_simp
        with_reducible rfl
      rotate_left
      · simp only [Act.put, List.setIfInBounds_toArray, List.set_cons_zero, List.set_cons_succ, i64_w, i32_w]
        rfl
      refine pure_ (i := 36) (N := some 6) (v := ?_) (a' := ?_) #[true, true, true, true, true, true, true, true, true, true, true, true, true, true, true, true, true, true, true, true, true, true, true, true, true, true, true, true, true, true, true, true, true, true, true, true, true] rfl rfl (any_of HT_.out (by kernel_rfl)) (fun _ _ _ h => h) (Or.inl ⟨by rfl, ?_⟩) ?_ ?_
      rotate_left
      · intro w'
        go_simp
        with_reducible rfl
      rotate_left
      · simp only [Act.put, List.setIfInBounds_toArray, List.set_cons_zero, List.set_cons_succ, i64_w, i32_w]
        rfl
      refine done_ (done_of HT_.out (by kernel_rfl)) ?_
      have hd0 := below_drew (below_drew (Below.refl wr.heap.size wr))
      have hb2 := below_then hd0 hd0.size hb
      have HW5 := Aside0.mk (HWm.out.below hb2)
      have HK5 := Aside0.mk (Kd.R_below HKm.out hb2)
      have HO5 := Aside0.mk (HOm.out.below hb2)
      have HS5 := Aside0.mk (Kd.R_below HSm.out hb2)
      have HB5 := Aside0.mk (HBm.out.then hb2)
      obtain ⟨A5, c5, ev5, hc5, _⟩ := Kd.N_reads hV5
      subst ev5
      have hlm : hs.length = m := by rw [HOm.out.len, rowsP_len]
      have HLM := Aside0.mk hlm
      have hle5 : wr.heap.size ≤ wr.drew.drew.heap.size := Nat.le_refl _
      have HO6 := Aside0.mk (HO5.out.snoc hV5 (show w.heap.size ≤ wr.drew.drew.heap.size from HBm.out.size) (fun j e => (Kd.R_bound HKm.out).1 j e |>.2.2.1))
      have hlen5 : (rowP s seg (t + 1) k N (chunk S N t)).length = k + 2 := rowP_len
      have ht4 := HT4.out
      clear w1_ w2_ w3_ hb hb2 hd0 hHeld z0 z1 z2 z3 z4 z5 HW_ HT_ HWm HKm HOm HSm HBm x0 x1 x2 x3 x4 x5 hV5 hle5 hlm
      generalize hL5 : rowP s seg (t + 1) k N (chunk S N t) = L5 at *
      have HLE5 := Aside0.mk hlen5
      clear hlen5
      have HL5 := Aside0.mk hL5
      clear hL5
      go_wp2_with (first
        | ((with_reducible refine gate_dst (N := 62) rfl ?_); refine Kd.event_run (v := .slice (some ⟨w5.heap.size, 0, none⟩) 1 1) (w1 := w5.alloc (.cells #[.slice A5 L5.length c5] 51)) rfl ?hrun ?_; (case hrun => first | (go_simp; done) | (go_simp; rfl)))
        | ((with_reducible refine gate_builtin (b := .append) (xs := #[.tmp 60, .tmp 62]) rfl ?_); refine Kd.R_append KH (w0 := w0) w0.heap.size rfl (.tmp 60) (.tmp 62) 43 51 (.slice none 0 0) 24 rfl Try.underlying43 info51 rfl (by decide) (by omega) u3 hs (A5, L5.length, c5) [.slice A5 L5.length c5] (fun j => w.heap.size ≤ j) (fun _ => False) rfl rfl rfl (fun _ hk => hk.elim) (fun j hj => Nat.le_trans HB5.out.size hj) HK5.out HB5.out.below HB5.out.below.size (by rw [HLM.out]; have := HM4.out; omega) ?_
           intro v7 w7 ho7 hb7 hg7 hat7
           have HK7 := Aside0.mk ho7
           have HW7 := Aside0.mk (show Rw w7 g k p s seg (.slice (some ⟨ba, 0, none⟩) n c) t from blk_over HW5.out HK5.out (by simp [KH, Kd.scalar]) hg7)
           have HO7 := Aside0.mk (HO6.out.after hg7 hat7)
           have HS7 := Aside0.mk (Kd.R_over HS5.out HK5.out (by simp [KB, Kd.int, Kd.scalar]) hg7)
           have HB7 := Aside0.mk (HB5.out.grow HK5.out hg7 hb7)
           have y5 := HW7.out.cells.2.2.2.2.2
           have f5 := HW7.out.free 5
           clear ho7 hb7 hg7 hat7 HW5 HK5 HO6 HO5 HS5 HB5))
      all_goals go_roundw
      all_goals
        obtain ⟨A7, c7, e7⟩ := Kd.R_slice HK7.out
        rw [List.length_append, List.length_singleton, HLM.out] at e7
      case measure =>
        rw [e7, HOV.out]
        have := HTM.out
        have := HTT.out
        show n / N - (m + 1) < n / N - m
        omega
      case rel =>
        have h1 := HW7.out.told_ (t + 1)
        have e1 : (((t + 1 : Nat)) : Int) = (t : Int) + 1 := by push_cast; rfl
        rw [e1] at h1
        refine ⟨m + 1, c7, A7, _, by have := HTM.out; have := HTT.out; omega, ⟨e7⟩, ⟨by rw [← Nat.add_assoc, HTT.out]; exact h1⟩, ⟨Kd.R_set HK7.out HW7.out (by simp [KH, Kd.scalar]) 5 _⟩, ⟨?_⟩, ⟨Kd.R_set HS7.out HW7.out (by simp [KB, Kd.int, Kd.scalar]) 5 _⟩, ⟨HB7.out.set hg 5 _⟩⟩
        have h2 := HO7.out.keep ((KeepBut.refl w7 g none).set_ 5 (.int .i64 ((t : Int) + 1))) HGW.out
        rw [rowsP_succ, show told + 1 + m = t + 1 by have := HTT.out; omega, chunk_at, HTT.out, HL5.out]
        exact h2
    · obtain ⟨o, ho⟩ : ∃ o, t * N = o := ⟨_, rfl⟩
      have h40 : t ≤ 4000000 := Nat.le_trans hm (Nat.le_trans (Nat.div_le_self _ _) hn9)
      have hoN : o ≤ n := by rw [← ho]; exact Nat.le_trans (Nat.mul_le_mul_right N hm) (Nat.div_mul_le_self _ _)
      have w1_ := wr1b h40
      have w3_ := wr3b ho (by clear w1_; omega)
      have hmo : ¬ o + N ≤ n := by rw [← ho]; rw [Nat.succ_mul] at hmore; exact hmore
      have hle : decide ((o : Int) + (N : Int) ≤ (n : Int)) = false := decide_eq_false (by clear w1_ w3_; omega)
      have HTE := Aside0.mk (show t = n / N from Nat.le_antisymm hm (Nat.le_of_not_lt fun h => hmore ((whole_more hNp).2 h)))
      have HTT := Aside0.mk htt
      have hlm : hs.length = m := by rw [HOm.out.len, rowsP_len]
      clear hmore hm htt hoN h40 hmo hlm
      go_upto_region 3 with fail
      refine start_ (n := 13) (S := fun w' => w'.cell? ⟨g, 0, none⟩ = some (.int .i64 (k : Nat)) ∧ w'.cell? ⟨g, 1, none⟩ = some (.int .i64 (p : Nat)) ∧ w'.cell? ⟨g, 2, none⟩ = some (.int .i64 (s : Nat)) ∧ w'.cell? ⟨g, 3, none⟩ = some (.int .u64 (seg : Nat)) ∧ w'.cell? ⟨g, 4, none⟩ = some (.slice A n c) ∧ w'.cell? ⟨g, 5, none⟩ = some (.int .i64 (t : Nat))) (ds := []) #[false, false, false, false, false, false, false, false, false, false, false, false, false] (by kernel_rfl) rfl rfl ⟨x0, x1, x2, x3, x4, x5⟩ (fun hHeld => ?_)
      refine with_tabW rwhole3.tab3 rwhole3.bits3 (fun HT_ HW_ => ?_)
      refine pure_ (i := 0) (N := some 12) (v := ?_) (a' := ?_) #[true, false, false, false, false, false, false, false, false, false, false, false, false] rfl rfl (any_of HT_.out (by kernel_rfl)) (fun _ _ _ h => h) (Or.inl ⟨by rfl, ?_⟩) ?_ ?_
      rotate_left
      · intro w'
        go_simp
        with_reducible rfl
      rotate_left
      · simp only [Act.put, List.setIfInBounds_toArray, List.set_cons_zero, List.set_cons_succ, i64_w, i32_w]
        rfl
      refine pure_ (i := 1) (N := some 13) (v := ?_) (a' := ?_) #[true, true, false, false, false, false, false, false, false, false, false, false, false] rfl rfl (any_of HT_.out (by kernel_rfl)) (fun _ _ _ h => h) (Or.inl ⟨by rfl, ?_⟩) ?_ ?_
      rotate_left
      · intro w'
        go_simp
        with_reducible rfl
      rotate_left
      · simp only [Act.put, List.setIfInBounds_toArray, List.set_cons_zero, List.set_cons_succ, i64_w, i32_w]
        rfl
      refine pure_ (i := 2) (N := some 14) (v := ?_) (a' := ?_) #[true, true, true, false, false, false, false, false, false, false, false, false, false] rfl rfl (any_of HT_.out (by kernel_rfl)) (fun _ _ _ h => h) (Or.inl ⟨by rfl, ?_⟩) ?_ ?_
      rotate_left
      · intro w'
        go_simp
        with_reducible rfl
      rotate_left
      · simp only [Act.put, List.setIfInBounds_toArray, List.set_cons_zero, List.set_cons_succ, i64_w, i32_w]
        rfl
      refine pure_ (i := 5) (N := some 17) (v := ?_) (a' := ?_) #[true, true, true, false, false, true, false, false, false, false, false, false, false] rfl rfl (any_of HT_.out (by kernel_rfl)) (fun _ _ _ h => h) (Or.inl ⟨by rfl, ?_⟩) ?_ ?_
      rotate_left
      · intro w'
        go_simp
        with_reducible rfl
      rotate_left
      · simp only [Act.put, List.setIfInBounds_toArray, List.set_cons_zero, List.set_cons_succ, i64_w, i32_w]
        rfl
      refine pure_ (i := 7) (N := some 19) (v := ?_) (a' := ?_) #[true, true, true, false, false, true, false, true, false, false, false, false, false] rfl rfl (any_of HT_.out (by kernel_rfl)) (fun _ _ _ h => h) (Or.inl ⟨by rfl, ?_⟩) ?_ ?_
      rotate_left
      · intro w'
        go_simp
        with_reducible rfl
      rotate_left
      · simp only [Act.put, List.setIfInBounds_toArray, List.set_cons_zero, List.set_cons_succ, i64_w, i32_w]
        rfl
      refine pure_ (i := 8) (N := some 20) (v := ?_) (a' := ?_) #[true, true, true, false, false, true, false, true, true, false, false, false, false] rfl rfl (any_of HT_.out (by kernel_rfl)) (fun _ _ _ h => h) (Or.inl ⟨by rfl, ?_⟩) ?_ ?_
      rotate_left
      · intro w'
        go_simp
        with_reducible rfl
      rotate_left
      · simp only [Act.put, List.setIfInBounds_toArray, List.set_cons_zero, List.set_cons_succ, i64_w, i32_w]
        rfl
      refine pure_ (i := 9) (N := some 21) (v := ?_) (a' := ?_) #[true, true, true, false, false, true, false, true, true, true, false, false, false] rfl rfl (any_of HT_.out (by kernel_rfl)) (fun _ _ _ h => h) (Or.inl ⟨by rfl, ?_⟩) ?_ ?_
      rotate_left
      · intro w'
        go_simp
        with_reducible rfl
      rotate_left
      · simp only [Act.put, List.setIfInBounds_toArray, List.set_cons_zero, List.set_cons_succ, i64_w, i32_w]
        rfl
      refine take_ (i := 3) (N := some 15) (v := ?_) (a' := ?_) #[true, true, true, true, false, true, false, true, true, true, false, false, false] rfl rfl (take_ofW HT_.out HW_.out (by kernel_rfl)) (fun _ _ _ h => h) (Or.inl ⟨by rfl, ?_⟩) hHeld ?_ ?_
      rotate_left
      · rintro w' ⟨s0, s1, s2, s3, s4, s5⟩
        go_simp
        with_reducible rfl
      rotate_left
      · simp only [Act.put, List.setIfInBounds_toArray, List.set_cons_zero, List.set_cons_succ, i64_w, i32_w]
        rfl
      refine pure_ (i := 4) (N := some 16) (v := ?_) (a' := ?_) #[true, true, true, true, true, true, false, true, true, true, false, false, false] rfl rfl (any_of HT_.out (by kernel_rfl)) (fun _ _ _ h => h) (Or.inl ⟨by rfl, ?_⟩) ?_ ?_
      rotate_left
      · intro w'
        go_simp
        with_reducible rfl
      rotate_left
      · simp only [Act.put, List.setIfInBounds_toArray, List.set_cons_zero, List.set_cons_succ, i64_w, i32_w]
        rfl
      refine pure_ (i := 6) (N := some 18) (v := ?_) (a' := ?_) #[true, true, true, true, true, true, true, true, true, true, false, false, false] rfl rfl (any_of HT_.out (by kernel_rfl)) (fun _ _ _ h => h) (Or.inl ⟨by rfl, ?_⟩) ?_ ?_
      rotate_left
      · intro w'
        go_simp
        with_reducible rfl
      rotate_left
      · simp only [Act.put, List.setIfInBounds_toArray, List.set_cons_zero, List.set_cons_succ, i64_w, i32_w]
        rfl
      refine take_ (i := 10) (N := some 22) (v := ?_) (a' := ?_) #[true, true, true, true, true, true, true, true, true, true, true, false, false] rfl rfl (take_ofW HT_.out HW_.out (by kernel_rfl)) (fun _ _ _ h => h) (Or.inl ⟨by rfl, ?_⟩) hHeld ?_ ?_
      rotate_left
      · rintro w' ⟨s0, s1, s2, s3, s4, s5⟩
        go_simp
        with_reducible rfl
      rotate_left
      · simp only [Act.put, List.setIfInBounds_toArray, List.set_cons_zero, List.set_cons_succ, i64_w, i32_w]
        rfl
      refine pure_ (i := 11) (N := some 23) (v := ?_) (a' := ?_) #[true, true, true, true, true, true, true, true, true, true, true, true, false] rfl rfl (any_of HT_.out (by kernel_rfl)) (fun _ _ _ h => h) (Or.inl ⟨by rfl, ?_⟩) ?_ ?_
      rotate_left
      · intro w'
        go_simp
        with_reducible rfl
      rotate_left
      · simp only [Act.put, List.setIfInBounds_toArray, List.set_cons_zero, List.set_cons_succ, i64_w, i32_w]
        rfl
      refine pure_ (i := 12) (N := some 24) (v := ?_) (a' := ?_) #[true, true, true, true, true, true, true, true, true, true, true, true, true] rfl rfl (any_of HT_.out (by kernel_rfl)) (fun _ _ _ h => h) (Or.inl ⟨by rfl, ?_⟩) ?_ ?_
      rotate_left
      · intro w'
        go_simp
        with_reducible rfl
      rotate_left
      · simp only [Act.put, List.setIfInBounds_toArray, List.set_cons_zero, List.set_cons_succ, i64_w, i32_w]
        rfl
      refine done_ (done_of HT_.out (by kernel_rfl)) ?_
      clear w1_ w3_
      go_wp2_with fail
      go_ret
      have hd0 := below_drew (Below.refl wr.heap.size wr)
      have e1 : m = n / N - told := by have := HTT.out; have := HTE.out; omega
      refine ⟨u3, hs, rfl, Kd.R_below HKm.out hd0, ?_, ?_, Kd.R_below HSm.out hd0, HBm.out.then hd0⟩
      · rw [← e1]; exact HOm.out.below hd0
      · rw [← HTE.out]; exact HWm.out.below hd0
end Go.Proofs.Ytjnicooboiijgaa.Sg
end

section
/-
  The reference's Writer.Add.
-/
set_option linter.unusedVariables false
set_option linter.unusedSimpArgs false
namespace Go.Proofs.Ytjnicooboiijgaa.Sg
open Go.RowKit Go.Proofs.YtjnicooboiijgaaW.PrintWords Go.Proofs.YtjnicooboiijgaaW.PrintLast Go.Proofs.YtjnicooboiijgaaW.PrintMore Go.Proofs.Ytjnicooboiijgaa.PSg Go.Proofs.Ytjnicooboiijgaa.Gf Go.Proofs.Ytjnicooboiijgaa.Rs
theorem keep_then {w w1 w2 : World} {g : Nat} {row : Option Nat} (h : KeepBut w w1 g row) (k : KeepBut w1 w2 g none) : KeepBut w w2 g row :=
  ⟨Nat.le_trans h.1 k.1, fun i hi hne hr => (k.2 i (Nat.lt_of_lt_of_le hi h.1) hne (by simp)).trans (h.2 i hi hne hr)⟩
theorem OutN.lower {W : World} {b b1 : Nat} {u : Value} {hs : List Hd} {P : List (List (List Int))} (h : OutN W b1 u hs P) (hb : b ≤ b1) : OutN W b u hs P :=
  ⟨h.len, fun i x hx => ⟨(h.rows i x hx).1, Kd.N_mono (Kd.N_lower (h.rows i x hx).2 hb) (fun k hk => ⟨Nat.le_trans hb hk.1, hk.2⟩)⟩⟩
set_option maxHeartbeats 8000000 in
set_option maxRecDepth 100000 in
theorem radd18_nil (w : World) (g : Nat) (A : Option Addr) (c : Nat) : Calls Try.prog 18 #[.pointer (some ⟨g, 0, none⟩), .slice A 0 c] w fun e w' => e = .returned (.tuple #[.int .i64 0, .slice none 0 0, .int .i64 1]) ∧ Below w.heap.size w w' := by
  go_enter Try.func18, Try.ntmps18
  go_wp2_with fail
  go_ret3
  exact ⟨rfl, Below.refl _ _⟩
set_option maxHeartbeats 8000000 in
set_option maxRecDepth 100000 in
theorem radd18_full (w : World) (g k p s seg told n c nb cb : Nat) (A Ab : Option Addr) (hf : Fits k p s) (hW : Rw w g k p s seg (.slice A n c) told) (hs : n ≤ k * roomN s * (p - 1)) (h0 : 0 < nb) (hn : k * roomN s * (p - 1) < n + nb) : Calls Try.prog 18 #[.pointer (some ⟨g, 0, none⟩), .slice Ab nb cb] w fun e w' => e = .returned (.tuple #[.int .i64 0, .slice none 0 0, .int .i64 5]) ∧ Below w.heap.size w w' := by
  have HL := Aside0.mk (rleft21 w g k p s seg told n c A hf hW hs)
  have c1 : ((nb : Int) == 0) = false := beq_eq_false_iff_ne.mpr (by omega)
  have c2 : decide (((k * roomN s * (p - 1) - n : Nat) : Int) < (nb : Int)) = true := decide_eq_true (by omega)
  have c3 : k * roomN s * (p - 1) - n < nb := by omega
  generalize k * roomN s * (p - 1) - n = D at *
  clear hf hW hs hn
  go_enter Try.func18, Try.ntmps18
  go_wp2_with (go_at_call 21; refine Calls.mono HL.out ?_; rintro e w1 ⟨rfl, hb⟩; have HB := Aside0.mk hb; clear hb)
  go_ret3
  exact ⟨rfl, HB.out⟩
set_option maxHeartbeats 16000000 in
set_option maxRecDepth 100000 in
theorem radd18_ok (w0 w : World) (g k p s seg N n c nb cb : Nat) (A Ab : Option Addr) (S bl : List Int) (hf : Fits k p s) (hN : k * roomN s = N) (hg : w0.heap.size ≤ g) (hB : Below w0.heap.size w0 w) (hW : Rw w g k p s seg (.slice A n c) (n / N)) (hS : KB.R 5 w w0.heap.size (fun _ => True) (.slice A n c) S) (hx : bytes S = true) (hA : KB.C w Ab nb bl) (hbl : bytes bl = true) (hseg : seg < 18446744073709551616) (h0 : 0 < nb) (hl : n + nb ≤ N * (p - 1)) (h9 : n + nb ≤ 4000000) :
    Calls Try.prog 18 #[.pointer (some ⟨g, 0, none⟩), .slice Ab nb cb] w fun e w' => ∃ v A2 c2 hs, e = .returned (.tuple #[.int .i64 n, v, .int .i64 0]) ∧ KH.R 51 w' w0.heap.size (fun j => w.heap.size ≤ j) v hs ∧ OutN w' w.heap.size v hs (rowsP s seg (n / N) k N ((n + nb) / N - n / N) ((S ++ bl).drop (n / N * N))) ∧ Rw w' g k p s seg (.slice A2 (n + nb) c2) ((n + nb) / N) ∧ KB.R 5 w' w0.heap.size (fun j => (Value.slice A n c).ownBlock = some j ∨ w.heap.size ≤ j) (.slice A2 (n + nb) c2) (S ++ bl) ∧ Below w0.heap.size w0 w' ∧ KeepBut w w' g (Value.slice A n c).ownBlock := by
  have hSl : S.length = n := (Kd.R_reads' hS).1.symm
  have hbll : bl.length = nb := Kd.C_len hA
  have HL := Aside0.mk (show Calls Try.prog 21 #[.pointer (some ⟨g, 0, none⟩)] w fun e w' => e = .returned (.int .i64 (N * (p - 1) - n : Nat)) ∧ Below w.heap.size w w' from by have := rleft21 w g k p s seg (n / N) n c A hf hW (by rw [hN]; omega); rw [hN] at this; exact this)
  have c1 : ((nb : Int) == 0) = false := beq_eq_false_iff_ne.mpr (by omega)
  have c2 : decide (((N * (p - 1) - n : Nat) : Int) < (nb : Int)) = false := decide_eq_false (by omega)
  have c3 : ¬ N * (p - 1) - n < nb := by omega
  have hxx : bytes (S ++ bl) = true := by unfold bytes at *; rw [List.all_append, hx, hbl]; rfl
  have HWH := Aside0.mk (fun (W : World) (A2 : Option Addr) (c2 : Nat) (hB2 : Below w0.heap.size w0 W) (hW2 : Rw W g k p s seg (.slice A2 (n + nb) c2) (n / N)) (hS2 : KB.R 5 W w0.heap.size (fun _ => True) (.slice A2 (n + nb) c2) (S ++ bl)) => rwhole38 w0 W g k p s seg (n / N) N (n + nb) c2 A2 (S ++ bl) hf hN hg hB2 hW2 hS2 hxx hseg (Nat.div_le_div_right (Nat.le_add_right _ _)) hl h9)
  have HW := Aside0.mk hW
  have HS := Aside0.mk hS
  have HB := Aside0.mk hB
  have HA := Aside0.mk hA
  have HX := Aside0.mk (And.intro hSl hbll)
  generalize N * (p - 1) - n = D at *
  clear hf hW hS hB hA hSl hbll hx hbl hxx hl
  go_enter Try.func18, Try.ntmps18
  go_wp2_with (first
    | (go_at_call 21
       refine Calls.mono HL.out ?_
       rintro e w1 ⟨rfl, hb⟩
       have HW1 := Aside0.mk (HW.out.below hb)
       have HS1 := Aside0.mk (Kd.R_below HS.out hb)
       have HA1 := Aside0.mk (Kd.C_below HA.out hb)
       have HB1 := Aside0.mk (below_then HB.out HB.out.size hb)
       have HK1 := Aside0.mk (KeepBut.of_below hb g (Value.slice A n c).ownBlock)
       have y4 := HW1.out.cells.2.2.2.2.1
       clear hb)
    | ((with_reducible refine gate_builtin (b := .append) (xs := #[.tmp 25, .tmp 26]) rfl ?_)
       refine Kd.R_append_rows (Kd.int .u8) (Rr := (Kd.int .u8).K _) (w0 := w0) w0.heap.size rfl (.tmp 25) (.tmp 26) 37 5 _ 1 rfl Try.underlying37 Go.Proofs.Ytjnicooboiijgaa.PSg.info5 rfl (by decide) (by decide) (.slice A n c) S bl Ab nb cb (fun _ => True) (fun _ => False) rfl rfl HS1.out HA1.out (fun _ _ h => h) (fun _ h => h.elim) (fun _ _ => trivial) HB1.out HB1.out.size (by rw [HX.out.1]; omega) ?_
       intro v2 w2 ho hb hg2 hat
       have HB2 := Aside0.mk hb
       have HK2 := Aside0.mk (HK1.out.trans (KeepBut.of_grown hg2 g) (.inl rfl))
       have HW2 := Aside0.mk (show Rw w2 g k p s seg (.slice A n c) (n / N) from blk_over HW1.out HS1.out (by simp [KB, Kd.int, Kd.scalar]) hg2)
       obtain ⟨A2, c2, e2⟩ := Kd.R_slice ho
       rw [List.length_append, HX.out.1, HX.out.2] at e2
       subst e2
       have HS2 := Aside0.mk ho
       have HO2 := Aside0.mk (show ∀ j, (Value.slice A2 (n + nb) c2).ownBlock = some j → (Value.slice A n c).ownBlock = some j ∨ w.heap.size ≤ j from fun j hj => by
         rcases hat with h | ⟨b, h, hle⟩
         · exact .inl (h ▸ hj)
         · rw [h] at hj; cases hj; exact .inr (Nat.le_trans HK1.out.1 hle))
       have f4 := HW2.out.free 4
       have y24 := HW2.out.cells.2.2.2.2.1
       clear ho hb hg2 hat HW1 HS1 HA1 HB1 HK1 y4)
    | (go_at_call 38
       have HW3 := Aside0.mk (HW2.out.b_ (.slice A2 (n + nb) c2))
       have HS3 := Aside0.mk (Kd.R_set HS2.out HW2.out (by simp [KB, Kd.int, Kd.scalar]) 4 (.slice A2 (n + nb) c2))
       have HB3 := Aside0.mk (below_set HB2.out hg (v := .slice A2 (n + nb) c2) (j := 4))
       refine Calls.mono (HWH.out _ A2 c2 HB3.out HW3.out HS3.out) ?_
       rintro e w4 ⟨v4, hs4, rfl, hH4, hO4, hW4, hS4, hb4⟩
       have HF := Aside0.mk (And.intro hH4 (And.intro hO4 (And.intro hW4 (And.intro hS4 hb4))))
       clear hH4 hO4 hW4 hS4 hb4))
  go_ret3
  obtain ⟨hH4, hO4, hW4, hS4, hb4⟩ := HF.out
  have hk3 := HK2.out.set_ 4 (.slice A2 (n + nb) c2)
  exact ⟨v4, A2, c2, hs4, rfl, Kd.R_mono hH4 (fun j hj => Nat.le_trans hk3.1 hj), hO4.lower hk3.1, hW4, R_bytes_ok hS4 HO2.out, hb4.below, keep_then hk3 hb4.keep⟩
end Go.Proofs.Ytjnicooboiijgaa.Sg
end

section
/-
  The reference's Writer.Pad.
-/
set_option linter.unusedVariables false
set_option linter.unusedSimpArgs false
namespace Go.Proofs.Ytjnicooboiijgaa.Sg
open Go.RowKit Go.Proofs.YtjnicooboiijgaaW.PrintWords Go.Proofs.YtjnicooboiijgaaW.PrintLast Go.Proofs.YtjnicooboiijgaaW.PrintMore Go.Proofs.Ytjnicooboiijgaa.PSg Go.Proofs.Ytjnicooboiijgaa.Gf Go.Proofs.Ytjnicooboiijgaa.Rs
theorem keep_grow {w W W1 : World} {g : Nat} {row r1 : Option Nat} (h : KeepBut w W g row) (hg : W.grownBy W1 r1) (hr : ∀ j, r1 = some j → row = some j ∨ w.heap.size ≤ j) : KeepBut w W1 g row :=
  ⟨Nat.le_trans h.1 hg.size, fun i hi hne h0 => (hg.block i (Nat.lt_of_lt_of_le hi h.1) (fun e => by
    rcases hr i e.symm with h2 | h2
    · exact h0 h2.symm
    · omega)).trans (h.2 i hi hne h0)⟩
def rpad1.T1 : Bool × List (List Nat × List Nat) := (true, [([], []), ([0], [0]), ([1], [1]), ([2], [2]), ([3], [3]), ([], []), ([5], [5]), ([6], [6]), ([7], [7]), ([8], [8]), ([4, 9], [4, 9]), ([10], [10])])
def rpad1.B1 : List Nat := [0, 1, 3, 7, 15, 0, 32, 96, 224, 480, 1023, 2047]
theorem rpad1.tab1 : rtab .any (opsOf Try.f16 1) = rpad1.T1 := by kernel_rfl
theorem rpad1.bits1 : waitsOk rpad1.T1.2 rpad1.B1 = true := by kernel_rfl
set_option maxHeartbeats 16000000 in
set_option maxRecDepth 100000 in
theorem rpad16_ok (w0 w : World) (g k p s seg N n c m : Nat) (A : Option Addr) (S : List Int) (hf : Fits k p s) (hN : k * roomN s = N) (hg : w0.heap.size ≤ g) (hB : Below w0.heap.size w0 w) (hW : Rw w g k p s seg (.slice A n c) (n / N)) (hS : KB.R 5 w w0.heap.size (fun _ => True) (.slice A n c) S) (hx : bytes S = true) (hseg : seg < 18446744073709551616) (hm : n + lack n N = m) (hl : m ≤ N * (p - 1)) (h9 : m ≤ 4000000) :
    Calls Try.prog 16 #[.pointer (some ⟨g, 0, none⟩)] w fun e w' => ∃ v A2 c2 hs, e = .returned v ∧ KH.R 51 w' w0.heap.size (fun j => w.heap.size ≤ j) v hs ∧ OutN w' w.heap.size v hs (rowsP s seg (n / N) k N (m / N - n / N) ((filled S N).drop (n / N * N))) ∧ Rw w' g k p s seg (.slice A2 m c2) (m / N) ∧ KB.R 5 w' w0.heap.size (fun j => (Value.slice A n c).ownBlock = some j ∨ w.heap.size ≤ j) (.slice A2 m c2) (filled S N) ∧ Below w0.heap.size w0 w' ∧ KeepBut w w' g (Value.slice A n c).ownBlock := by
  have hSl : S.length = n := (Kd.R_reads' hS).1.symm
  have hrp := room_pos hf.s1 hf.s2
  have hNp : 0 < N := by rw [← hN]; exact Nat.mul_pos (by have := hf.k1; omega) (by omega)
  have hN9 : N ≤ 2097152 := by rw [← hN]; exact row_lt hf
  have hF : filled S N = S ++ List.replicate (lack n N) 0 := by rw [filled_eq, hSl]
  have hxx : bytes (filled S N) = true := by
    rw [hF]; unfold bytes at *; rw [List.all_append, hx, Bool.true_and, List.all_eq_true]; intro z hz; rw [List.eq_of_mem_replicate hz]; rfl
  have HWH := Aside0.mk (fun (W : World) (A2 : Option Addr) (c2 : Nat) (hB2 : Below w0.heap.size w0 W) (hW2 : Rw W g k p s seg (.slice A2 m c2) (n / N)) (hS2 : KB.R 5 W w0.heap.size (fun _ => True) (.slice A2 m c2) (filled S N)) => rwhole38 w0 W g k p s seg (n / N) N m c2 A2 (filled S N) hf hN hg hB2 hW2 hS2 hxx hseg (Nat.div_le_div_right (by omega)) hl h9)
  have HRO := Aside0.mk (fun (W : World) => show Calls Try.prog 29 #[.agg #[.int .i64 k, .int .i64 p, .int .i64 s]] W fun e w' => e = .returned (.int .i64 (N : Nat)) ∧ Below W.heap.size W w' from by have := rrow29 W hf; rw [hN] at this; exact this)
  have HM := Aside0.mk hm
  have HFF := Aside0.mk hF
  have HSL := Aside0.mk hSl
  have HW := Aside0.mk hW
  have HS := Aside0.mk hS
  have HB := Aside0.mk hB
  clear hf hN hW hS hB hx hxx hF hm hl hSl hrp
  go_enter Try.func16, Try.ntmps16
  go_wp2_with fail
  go_loopw [3] (fun _ W => ∃ (q c2 : Nat) (A2 : Option Addr), q ≤ lack n N ∧ Aside0 (Rw W g k p s seg (.slice A2 (n + q) c2) (n / N)) ∧ Aside0 (KB.R 5 W w0.heap.size (fun _ => True) (.slice A2 (n + q) c2) (S ++ List.replicate q 0)) ∧ Aside0 (Below w0.heap.size w0 W) ∧ Aside0 (KeepBut w W g (Value.slice A n c).ownBlock) ∧ Aside0 (∀ j, (Value.slice A2 (n + q) c2).ownBlock = some j → (Value.slice A n c).ownBlock = some j ∨ w.heap.size ≤ j)) (fun _ W => m - (match W.cell? ⟨g, 4, none⟩ with | some (.slice _ l _) => l | _ => 0))
  case atStart => exact ⟨0, c, A, Nat.zero_le _, HW, ⟨by simpa using HS.out⟩, HB, ⟨KeepBut.refl _ _ _⟩, ⟨fun j h => .inl h⟩⟩
  case round =>
    obtain ⟨q, c2, A2, hq, HW2, HS2, HB2, HK2, HO2⟩ := hrel
    obtain ⟨x0, x1, x2, x3, x4, x5⟩ := HW2.out.cells
    have hm := HM.out
    obtain ⟨L, hL⟩ : ∃ L, n + q = L := ⟨_, rfl⟩
    have hL9 : L ≤ 4000000 := by omega
    obtain ⟨mm, hmm⟩ : ∃ mm, L % N = mm := ⟨_, rfl⟩
    have hrem : Int.tmod (L : Int) (N : Int) = (mm : Int) := by rw [← hmm]; rfl
    have hN0 : (N : Int) ≠ 0 := by omega
    have hN00 : ¬ N = 0 := by omega
    by_cases hlt : q < lack n N
    · have hne := lack_mod hNp hlt
      rw [hL] at hne x4 HW2 HS2 HO2
      rw [hmm] at hne
      have e1 : ((mm : Int) == 0) = false := beq_eq_false_iff_ne.mpr (by omega)
      have e2 : ((mm : Int) != 0) = true := bne_iff_ne.mpr (by omega)
      have e3 : (mm == 0) = false := beq_eq_false_iff_ne.mpr hne
      have HLL := Aside0.mk hL
      have HLQ := Aside0.mk hlt
      have HX4 := Aside0.mk x4
      clear hmm hL hm hq hlt
      go_upto_region 1 with fail
      refine start_ (n := 12) (S := fun w' => w'.cell? ⟨g, 0, none⟩ = some (.int .i64 (k : Nat)) ∧ w'.cell? ⟨g, 1, none⟩ = some (.int .i64 (p : Nat)) ∧ w'.cell? ⟨g, 2, none⟩ = some (.int .i64 (s : Nat)) ∧ w'.cell? ⟨g, 4, none⟩ = some (.slice A2 L c2)) (ds := []) #[false, false, false, false, false, false, false, false, false, false, false, false] (by kernel_rfl) rfl rfl ⟨x0, x1, x2, x4⟩ (fun hHeld => ?_)
      refine with_tabW rpad1.tab1 rpad1.bits1 (fun HT_ HW_ => ?_)
      refine pure_ (i := 0) (N := some 3) (v := ?_) (a' := ?_) #[true, false, false, false, false, false, false, false, false, false, false, false] rfl rfl (any_of HT_.out (by kernel_rfl)) (fun _ _ _ h => h) (Or.inl ⟨by rfl, ?_⟩) ?_ ?_
      rotate_left
      · intro w'
        go_simp
        with_reducible rfl
      rotate_left
      · simp only [Act.put, List.setIfInBounds_toArray, List.set_cons_zero, List.set_cons_succ, i64_w, i32_w]
        rfl
      refine pure_ (i := 1) (N := some 4) (v := ?_) (a' := ?_) #[true, true, false, false, false, false, false, false, false, false, false, false] rfl rfl (any_of HT_.out (by kernel_rfl)) (fun _ _ _ h => h) (Or.inl ⟨by rfl, ?_⟩) ?_ ?_
      rotate_left
      · intro w'
        go_simp
        with_reducible rfl
      rotate_left
      · simp only [Act.put, List.setIfInBounds_toArray, List.set_cons_zero, List.set_cons_succ, i64_w, i32_w]
        rfl
      refine pure_ (i := 2) (N := some 5) (v := ?_) (a' := ?_) #[true, true, true, false, false, false, false, false, false, false, false, false] rfl rfl (any_of HT_.out (by kernel_rfl)) (fun _ _ _ h => h) (Or.inl ⟨by rfl, ?_⟩) ?_ ?_
      rotate_left
      · intro w'
        go_simp
        with_reducible rfl
      rotate_left
      · simp only [Act.put, List.setIfInBounds_toArray, List.set_cons_zero, List.set_cons_succ, i64_w, i32_w]
        rfl
      refine pure_ (i := 5) (N := some 8) (v := ?_) (a' := ?_) #[true, true, true, false, false, true, false, false, false, false, false, false] rfl rfl (any_of HT_.out (by kernel_rfl)) (fun _ _ _ h => h) (Or.inl ⟨by rfl, ?_⟩) ?_ ?_
      rotate_left
      · intro w'
        go_simp
        with_reducible rfl
      rotate_left
      · simp only [Act.put, List.setIfInBounds_toArray, List.set_cons_zero, List.set_cons_succ, i64_w, i32_w]
        rfl
      refine pure_ (i := 6) (N := some 9) (v := ?_) (a' := ?_) #[true, true, true, false, false, true, true, false, false, false, false, false] rfl rfl (any_of HT_.out (by kernel_rfl)) (fun _ _ _ h => h) (Or.inl ⟨by rfl, ?_⟩) ?_ ?_
      rotate_left
      · intro w'
        go_simp
        with_reducible rfl
      rotate_left
      · simp only [Act.put, List.setIfInBounds_toArray, List.set_cons_zero, List.set_cons_succ, i64_w, i32_w]
        rfl
      refine pure_ (i := 7) (N := some 10) (v := ?_) (a' := ?_) #[true, true, true, false, false, true, true, true, false, false, false, false] rfl rfl (any_of HT_.out (by kernel_rfl)) (fun _ _ _ h => h) (Or.inl ⟨by rfl, ?_⟩) ?_ ?_
      rotate_left
      · intro w'
        go_simp
        with_reducible rfl
      rotate_left
      · simp only [Act.put, List.setIfInBounds_toArray, List.set_cons_zero, List.set_cons_succ, i64_w, i32_w]
        rfl
      refine take_ (i := 3) (N := some 6) (v := ?_) (a' := ?_) #[true, true, true, true, false, true, true, true, false, false, false, false] rfl rfl (take_ofW HT_.out HW_.out (by kernel_rfl)) (fun _ _ _ h => h) (Or.inl ⟨by rfl, ?_⟩) hHeld ?_ ?_
      rotate_left
      · rintro w' ⟨s0, s1, s2, s3⟩
        go_simp
        with_reducible rfl
      rotate_left
      · simp only [Act.put, List.setIfInBounds_toArray, List.set_cons_zero, List.set_cons_succ, i64_w, i32_w]
        rfl
      refine pure_ (i := 4) (N := some 7) (v := ?_) (a' := ?_) #[true, true, true, true, true, true, true, true, false, false, false, false] rfl rfl (any_of HT_.out (by kernel_rfl)) (fun _ _ _ h => h) (Or.inl ⟨by rfl, ?_⟩) ?_ ?_
      rotate_left
      · intro w'
        go_simp
        with_reducible rfl
      rotate_left
      · simp only [Act.put, List.setIfInBounds_toArray, List.set_cons_zero, List.set_cons_succ, i64_w, i32_w]
        rfl
      refine take_ (i := 8) (N := some 11) (v := ?_) (a' := ?_) #[true, true, true, true, true, true, true, true, true, false, false, false] rfl rfl (take_ofW HT_.out HW_.out (by kernel_rfl)) (fun _ _ _ h => h) (Or.inl ⟨by rfl, ?_⟩) hHeld ?_ ?_
      rotate_left
      · rintro w' ⟨s0, s1, s2, s3⟩
        go_simp
        with_reducible rfl
      rotate_left
      · simp only [Act.put, List.setIfInBounds_toArray, List.set_cons_zero, List.set_cons_succ, i64_w, i32_w]
        rfl
      refine one_ (i := 9) (N := some 12) #[true, true, true, true, true, true, true, true, true, true, false, false] rfl rfl (one_of HT_.out (by kernel_rfl)) (by decide) (fun K hK => ?_)
      refine goes_ Try.func29 (by kernel_rfl) rfl #[.agg #[.int .i64 (k : Nat), .int .i64 (p : Nat), .int .i64 (s : Nat)]] (by rfl) rfl rfl (by simp only [List.map_toArray, List.map_cons, List.map_nil]; rfl) ?_
      refine Calls.mono (HRO.out _) ?_
      rintro e w5 ⟨rfl, hb⟩
      refine ⟨_, rfl, ?_⟩
      refine hK.out _ _ ⟨pw_cell_below hb hHeld.1, pw_cell_below hb hHeld.2.1, pw_cell_below hb hHeld.2.2.1, pw_cell_below hb hHeld.2.2.2⟩ (fun hHeld => ?_)
      clear hK K
      refine norm_ (a' := ?_) ?_ ?_
      rotate_left
      · show Act.put _ (some 12) _ = _
        simp only [Act.put, List.setIfInBounds_toArray, List.set_cons_zero, List.set_cons_succ, i64_w, i32_w]
        rfl
      refine pure_ (i := 10) (N := some 13) (v := ?_) (a' := ?_) #[true, true, true, true, true, true, true, true, true, true, true, false] rfl rfl (any_of HT_.out (by kernel_rfl)) (fun _ _ _ h => h) (Or.inl ⟨by rfl, ?_⟩) ?_ ?_
      rotate_left
      · intro w'
        go_simp
        with_reducible rfl
      rotate_left
      · simp only [Act.put, List.setIfInBounds_toArray, List.set_cons_zero, List.set_cons_succ, i64_w, i32_w]
        rfl
      refine pure_ (i := 11) (N := some 14) (v := ?_) (a' := ?_) #[true, true, true, true, true, true, true, true, true, true, true, true] rfl rfl (any_of HT_.out (by kernel_rfl)) (fun _ _ _ h => h) (Or.inl ⟨by rfl, ?_⟩) ?_ ?_
      rotate_left
      · intro w'
        go_simp
        with_reducible rfl
      rotate_left
      · simp only [Act.put, List.setIfInBounds_toArray, List.set_cons_zero, List.set_cons_succ, i64_w, i32_w]
        rfl
      refine done_ (done_of HT_.out (by kernel_rfl)) ?_
      have hd0 := below_drew (Below.refl wr.heap.size wr)
      have hb2 := below_then hd0 hd0.size hb
      have HW5 := Aside0.mk (HW2.out.below hb2)
      have HS5 := Aside0.mk (Kd.R_below HS2.out hb2)
      have HB5 := Aside0.mk (below_then HB2.out HB2.out.size hb2)
      have HK5 := Aside0.mk (keep_then HK2.out (KeepBut.of_below hb2 g none))
      have y4 := HW5.out.cells.2.2.2.2.1
      have HLS := Aside0.mk (show (S ++ List.replicate q 0).length = L by rw [List.length_append, List.length_replicate, HSL.out, HLL.out])
      obtain ⟨T, hT⟩ : ∃ T, S ++ List.replicate q 0 = T := ⟨_, rfl⟩
      rw [hT] at HS5 HLS
      have HTT := Aside0.mk hT
      clear hT hd0 hb2 hb hHeld HW2 HS2 HB2 HK2 x0 x1 x2 x3 x4 x5 HW_ HT_
      go_wp2_with (first
        | ((with_reducible refine gate_builtin (b := .append) (xs := #[.tmp 19, .tmp 20]) rfl ?_)
           refine Kd.R_append (Kd.int .u8) (w0 := w0) w0.heap.size rfl (.tmp 19) (.tmp 20) 37 5 (.int .u8 0) 1 rfl Try.underlying37 Go.Proofs.Ytjnicooboiijgaa.PSg.info5 rfl (by decide) (by decide) (.slice A2 L c2) T 0 [.int .u8 0] (fun _ => True) (fun _ => False) rfl rfl rfl (fun _ hk => hk.elim) (fun _ _ => trivial) HS5.out HB5.out HB5.out.size (by rw [HLS.out]; omega) ?_
           intro v6 w6 ho hb hg6 hat
           have HB6 := Aside0.mk hb
           have HK6 := Aside0.mk (keep_grow HK5.out hg6 HO2.out)
           have HW6 := Aside0.mk (show Rw w6 g k p s seg (.slice A2 L c2) (n / N) from blk_over HW5.out HS5.out (by simp [KB, Kd.int, Kd.scalar]) hg6)
           obtain ⟨A6, c6, e6⟩ := Kd.R_slice ho
           rw [List.length_append, HLS.out, List.length_singleton] at e6
           subst e6
           have HS6 := Aside0.mk ho
           have HO6 := Aside0.mk (show ∀ j, (Value.slice A6 (L + 1) c6).ownBlock = some j → (Value.slice A n c).ownBlock = some j ∨ w.heap.size ≤ j from fun j hj => by
             rcases hat with h | ⟨b, h, hle⟩
             · exact HO2.out j (h ▸ hj)
             · rw [h] at hj; cases hj; exact .inr (Nat.le_trans HK5.out.1 hle))
           have f4 := HW6.out.free 4
           have y24 := HW6.out.cells.2.2.2.2.1
           clear ho hb hg6 hat HW5 HS5 HB5 HK5 HO2 y4))
      all_goals go_roundw
      case measure =>
        have h4 := (HW6.out.b_ (.slice A6 (L + 1) c6)).cells.2.2.2.2.1
        rw [h4, HX4.out]
        have := HM.out
        have := HLL.out
        have := HLQ.out
        show m - (L + 1) < m - L
        omega
      case rel =>
        have h4 := HW6.out.b_ (.slice A6 (L + 1) c6)
        refine ⟨q + 1, c6, A6, HLQ.out, ?_, ?_, ⟨below_set HB6.out hg⟩, ⟨HK6.out.set_ 4 _⟩, ?_⟩
        all_goals rw [← Nat.add_assoc, HLL.out]
        · exact ⟨h4⟩
        · refine ⟨Kd.R_set ?_ HW6.out (by simp [KB, Kd.int, Kd.scalar]) 4 _⟩
          rw [List.replicate_succ', ← List.append_assoc, HTT.out]
          exact HS6.out
        · exact HO6
    · obtain rfl : q = lack n N := by omega
      have hm0 : mm = 0 := by rw [← hmm, ← hL]; exact lack_full hNp
      rw [hm] at hL
      subst hL
      rw [hm] at x4 HW2 HS2 HO2
      rw [hm0] at hrem
      clear hmm hq hlt hm0
      go_upto_region 1 with fail
      refine start_ (n := 12) (S := fun w' => w'.cell? ⟨g, 0, none⟩ = some (.int .i64 (k : Nat)) ∧ w'.cell? ⟨g, 1, none⟩ = some (.int .i64 (p : Nat)) ∧ w'.cell? ⟨g, 2, none⟩ = some (.int .i64 (s : Nat)) ∧ w'.cell? ⟨g, 4, none⟩ = some (.slice A2 m c2)) (ds := []) #[false, false, false, false, false, false, false, false, false, false, false, false] (by kernel_rfl) rfl rfl ⟨x0, x1, x2, x4⟩ (fun hHeld => ?_)
      refine with_tabW rpad1.tab1 rpad1.bits1 (fun HT_ HW_ => ?_)
      refine pure_ (i := 0) (N := some 3) (v := ?_) (a' := ?_) #[true, false, false, false, false, false, false, false, false, false, false, false] rfl rfl (any_of HT_.out (by kernel_rfl)) (fun _ _ _ h => h) (Or.inl ⟨by rfl, ?_⟩) ?_ ?_
      rotate_left
      · intro w'
        go_simp
        with_reducible rfl
      rotate_left
      · simp only [Act.put, List.setIfInBounds_toArray, List.set_cons_zero, List.set_cons_succ, i64_w, i32_w]
        rfl
      refine pure_ (i := 1) (N := some 4) (v := ?_) (a' := ?_) #[true, true, false, false, false, false, false, false, false, false, false, false] rfl rfl (any_of HT_.out (by kernel_rfl)) (fun _ _ _ h => h) (Or.inl ⟨by rfl, ?_⟩) ?_ ?_
      rotate_left
      · intro w'
        go_simp
        with_reducible rfl
      rotate_left
      · simp only [Act.put, List.setIfInBounds_toArray, List.set_cons_zero, List.set_cons_succ, i64_w, i32_w]
        rfl
      refine pure_ (i := 2) (N := some 5) (v := ?_) (a' := ?_) #[true, true, true, false, false, false, false, false, false, false, false, false] rfl rfl (any_of HT_.out (by kernel_rfl)) (fun _ _ _ h => h) (Or.inl ⟨by rfl, ?_⟩) ?_ ?_
      rotate_left
      · intro w'
        go_simp
        with_reducible rfl
      rotate_left
      · simp only [Act.put, List.setIfInBounds_toArray, List.set_cons_zero, List.set_cons_succ, i64_w, i32_w]
        rfl
      refine pure_ (i := 5) (N := some 8) (v := ?_) (a' := ?_) #[true, true, true, false, false, true, false, false, false, false, false, false] rfl rfl (any_of HT_.out (by kernel_rfl)) (fun _ _ _ h => h) (Or.inl ⟨by rfl, ?_⟩) ?_ ?_
      rotate_left
      · intro w'
        go_simp
        with_reducible rfl
      rotate_left
      · simp only [Act.put, List.setIfInBounds_toArray, List.set_cons_zero, List.set_cons_succ, i64_w, i32_w]
        rfl
      refine pure_ (i := 6) (N := some 9) (v := ?_) (a' := ?_) #[true, true, true, false, false, true, true, false, false, false, false, false] rfl rfl (any_of HT_.out (by kernel_rfl)) (fun _ _ _ h => h) (Or.inl ⟨by rfl, ?_⟩) ?_ ?_
      rotate_left
      · intro w'
        go_simp
        with_reducible rfl
      rotate_left
      · simp only [Act.put, List.setIfInBounds_toArray, List.set_cons_zero, List.set_cons_succ, i64_w, i32_w]
        rfl
      refine pure_ (i := 7) (N := some 10) (v := ?_) (a' := ?_) #[true, true, true, false, false, true, true, true, false, false, false, false] rfl rfl (any_of HT_.out (by kernel_rfl)) (fun _ _ _ h => h) (Or.inl ⟨by rfl, ?_⟩) ?_ ?_
      rotate_left
      · intro w'
        go_simp
        with_reducible rfl
      rotate_left
      · simp only [Act.put, List.setIfInBounds_toArray, List.set_cons_zero, List.set_cons_succ, i64_w, i32_w]
        rfl
      refine take_ (i := 3) (N := some 6) (v := ?_) (a' := ?_) #[true, true, true, true, false, true, true, true, false, false, false, false] rfl rfl (take_ofW HT_.out HW_.out (by kernel_rfl)) (fun _ _ _ h => h) (Or.inl ⟨by rfl, ?_⟩) hHeld ?_ ?_
      rotate_left
      · rintro w' ⟨s0, s1, s2, s3⟩
        go_simp
        with_reducible rfl
      rotate_left
      · simp only [Act.put, List.setIfInBounds_toArray, List.set_cons_zero, List.set_cons_succ, i64_w, i32_w]
        rfl
      refine pure_ (i := 4) (N := some 7) (v := ?_) (a' := ?_) #[true, true, true, true, true, true, true, true, false, false, false, false] rfl rfl (any_of HT_.out (by kernel_rfl)) (fun _ _ _ h => h) (Or.inl ⟨by rfl, ?_⟩) ?_ ?_
      rotate_left
      · intro w'
        go_simp
        with_reducible rfl
      rotate_left
      · simp only [Act.put, List.setIfInBounds_toArray, List.set_cons_zero, List.set_cons_succ, i64_w, i32_w]
        rfl
      refine take_ (i := 8) (N := some 11) (v := ?_) (a' := ?_) #[true, true, true, true, true, true, true, true, true, false, false, false] rfl rfl (take_ofW HT_.out HW_.out (by kernel_rfl)) (fun _ _ _ h => h) (Or.inl ⟨by rfl, ?_⟩) hHeld ?_ ?_
      rotate_left
      · rintro w' ⟨s0, s1, s2, s3⟩
        go_simp
        with_reducible rfl
      rotate_left
      · simp only [Act.put, List.setIfInBounds_toArray, List.set_cons_zero, List.set_cons_succ, i64_w, i32_w]
        rfl
      refine one_ (i := 9) (N := some 12) #[true, true, true, true, true, true, true, true, true, true, false, false] rfl rfl (one_of HT_.out (by kernel_rfl)) (by decide) (fun K hK => ?_)
      refine goes_ Try.func29 (by kernel_rfl) rfl #[.agg #[.int .i64 (k : Nat), .int .i64 (p : Nat), .int .i64 (s : Nat)]] (by rfl) rfl rfl (by simp only [List.map_toArray, List.map_cons, List.map_nil]; rfl) ?_
      refine Calls.mono (HRO.out _) ?_
      rintro e w5 ⟨rfl, hb⟩
      refine ⟨_, rfl, ?_⟩
      refine hK.out _ _ ⟨pw_cell_below hb hHeld.1, pw_cell_below hb hHeld.2.1, pw_cell_below hb hHeld.2.2.1, pw_cell_below hb hHeld.2.2.2⟩ (fun hHeld => ?_)
      clear hK K
      refine norm_ (a' := ?_) ?_ ?_
      rotate_left
      · show Act.put _ (some 12) _ = _
        simp only [Act.put, List.setIfInBounds_toArray, List.set_cons_zero, List.set_cons_succ, i64_w, i32_w]
        rfl
      refine pure_ (i := 10) (N := some 13) (v := ?_) (a' := ?_) #[true, true, true, true, true, true, true, true, true, true, true, false] rfl rfl (any_of HT_.out (by kernel_rfl)) (fun _ _ _ h => h) (Or.inl ⟨by rfl, ?_⟩) ?_ ?_
      rotate_left
      · intro w'
        go_simp
        with_reducible rfl
      rotate_left
      · simp only [Act.put, List.setIfInBounds_toArray, List.set_cons_zero, List.set_cons_succ, i64_w, i32_w]
        rfl
      refine pure_ (i := 11) (N := some 14) (v := ?_) (a' := ?_) #[true, true, true, true, true, true, true, true, true, true, true, true] rfl rfl (any_of HT_.out (by kernel_rfl)) (fun _ _ _ h => h) (Or.inl ⟨by rfl, ?_⟩) ?_ ?_
      rotate_left
      · intro w'
        go_simp
        with_reducible rfl
      rotate_left
      · simp only [Act.put, List.setIfInBounds_toArray, List.set_cons_zero, List.set_cons_succ, i64_w, i32_w]
        rfl
      refine done_ (done_of HT_.out (by kernel_rfl)) ?_
      have hd0 := below_drew (Below.refl wr.heap.size wr)
      have hb2 := below_then hd0 hd0.size hb
      have HW5 := Aside0.mk (HW2.out.below hb2)
      have HS5 := Aside0.mk (Kd.R_below HS2.out hb2)
      have HB5 := Aside0.mk (below_then HB2.out HB2.out.size hb2)
      have HK5 := Aside0.mk (keep_then HK2.out (KeepBut.of_below hb2 g none))
      rw [← HFF.out] at HS5
      have HWI := Aside0.mk (HWH.out _ A2 c2 HB5.out HW5.out HS5.out)
      clear hd0 hb2 hb hHeld HW2 HS2 HB2 HK2 x0 x1 x2 x3 x4 x5 HW_ HT_
      go_wp2_with (go_at_call 38
                   refine Calls.mono HWI.out ?_
                   rintro e w4 ⟨v4, hs4, rfl, hH4, hO4, hW4, hS4, hb4⟩
                   have HF := Aside0.mk (And.intro hH4 (And.intro hO4 (And.intro hW4 (And.intro hS4 hb4))))
                   clear hH4 hO4 hW4 hS4 hb4)
      go_ret
      obtain ⟨hH4, hO4, hW4, hS4, hb4⟩ := HF.out
      have hk3 := HK5.out
      exact ⟨v4, A2, c2, hs4, rfl, Kd.R_mono hH4 (fun j hj => Nat.le_trans hk3.1 hj), hO4.lower hk3.1, hW4, R_bytes_ok hS4 HO2.out, hb4.below, keep_then hk3 hb4.keep⟩
end Go.Proofs.Ytjnicooboiijgaa.Sg
end
