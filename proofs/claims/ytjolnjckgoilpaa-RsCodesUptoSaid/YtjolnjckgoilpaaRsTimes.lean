/-
  rs.times: a row times shards, byte by byte.
-/
import Derived.Test.YtjolnjckgoilpaaMTold
import Derived.Test.YtjolnjckgoilpaaGfRows
set_option linter.unusedVariables false
set_option linter.unusedSimpArgs false
namespace Go.Proofs.Ytjolnjckgoilpaa.Rs
open Go.RowKit Go.Proofs.YtjolnjckgoilpaaW.PrintWords Go.Proofs.YtjolnjckgoilpaaW.PrintLast Go.Proofs.YtjolnjckgoilpaaW.PrintMore Go.Proofs.Ytjolnjckgoilpaa.PRa Go.Proofs.Ytjolnjckgoilpaa.Gf
/-- A row of bytes as whole numbers. -/
def rowL (m : Nat) (f : Nat → Nat) : List Int := (List.range m).map fun x => ((f x : Nat) : Int)
theorem rowL_length (m : Nat) (f : Nat → Nat) : (rowL m f).length = m := by simp [rowL]
theorem rowAt_R {w : World} {d c base : Nat} {f : Nat → Nat} {ok : Nat → Prop} (h : RowAt w d c f) (hb : base ≤ d) (hc : c ≤ 1000000000) (hok : ok d) :
    Kd.R (Kd.int .u8) 5 w base ok (.slice (some ⟨d, 0, none⟩) c c) (rowL c f) := by
  refine Kd.R_of_own ⟨?_, .inr ⟨d, c, byC c f, ?_, hb, h, ?_, ?_, ?_, ?_⟩⟩ ?_
  · simp [encs]
  · simp [rowL_length]
  · simp [rowL_length]
  · unfold maxLen; omega
  · simp [byC]
  · rw [List.take_of_length_le (by simp [byC, rowL_length])]
    simp [byC, encs, rowL]
  · intro k hk
    have hk2 : d = k := by simpa [Value.ownBlock] using hk
    subst hk2
    exact hok
theorem make_row (n : Nat) (hn : n ≤ 1000000) (w : World) :
    (Instr.makeSlice 25 (.int .i64 (n : Int)) (.int .i64 (n : Int))).run Try.prog w = .ok (.slice (some ⟨w.heap.size, 0, none⟩) n n) (w.alloc (.cells (byC n fun _ => 0) 5)) := by
  rw [mk53 n hn w]
  have : rowCells n 0 (fun _ => (0 : Int)) = byC n fun _ => 0 := by simp [rowCells, byC]
  rw [this]
/-- A column's sum of products, the first i of them. -/
def tcol (ρ : Nat → Nat) (l : List (List Int)) (i x : Nat) : Nat := sx i fun q => GfM.M (ρ q) (byt l q x)
theorem tcol_succ (ρ : Nat → Nat) (l : List (List Int)) (i x : Nat) : tcol ρ l (i + 1) x = tcol ρ l i x ^^^ GfM.M (ρ i) (byt l i x) := rfl
theorem tcol_lt {ρ : Nat → Nat} {l : List (List Int)} (h : ∀ i, ρ i < 256) (i x : Nat) : tcol ρ l i x < 256 := sx_lt _ _ fun k _ => GfM.M_lt _ _ (h k)
theorem store_prod {W w1 : World} {g m : Nat} {f : Nat → Nat} (h : RowAt W g m f) (hb : Below W.heap.size W w1) (o : Obj) : RowAt (w1.alloc o) g m f :=
  (Below.heap_alloc w1 o g (by have := heap_lt h; have := hb.size; omega)).trans ((hb.block g (heap_lt h)).trans h)
theorem heap_far {W : World} {G g q : Nat} {o : Obj} {v : Value} (h : W.heap[G]? = some o) (hne : g ≠ G) : (W.setCell ⟨g, q, none⟩ v).heap[G]? = some o :=
  blkfar h (p := ⟨g, q, none⟩) (fun e => hne e.symm) v
def times32.T9 : Bool × List (List Nat × List Nat) := (true, [([], []), ([], []), ([0, 1], [0, 1]), ([2], [2]), ([], []), ([4], [4]), ([5], [5]), ([3, 6], [3, 6]), ([0, 1, 0, 1, 2, 3, 4, 5, 6, 7], [0, 1]), ([8, 7, 0, 1, 2, 3, 4, 5, 6, 7], [7, 8])])
def times32.B9 : List Nat := [0, 0, 3, 7, 0, 16, 48, 127, 255, 511]
theorem times32.tab9 : rtab .any (opsOf Try.f32 9) = times32.T9 := by kernel_rfl
theorem times32.bits9 : waitsOk times32.T9.2 times32.B9 = true := by kernel_rfl
set_option maxHeartbeats 8000000 in
set_option maxRecDepth 100000 in
theorem times32 (w : World) (A : Option Addr) (c : Nat) (rw : List Int) (hR : KB.C w A rw.length rw) (ρ : Nat → Nat) (hρ : ∀ i, ρ i < 256) (hrw : ∀ i, i < rw.length → rw.getD i 0 = ((ρ i : Nat) : Int))
    (B : Option Addr) (d : Nat) (l : List (List Int)) (hL : KR.C w B l.length l) (n m : Nat) (hn : l.length = n) (hn0 : 0 < n) (hnr : n ≤ rw.length) (hn9 : n ≤ 1000000) (hm9 : m ≤ 1000000)
    (hok : okB l = true) (hm : ∀ i, i < n → (row l i).length = m) :
    Calls Try.prog 32 #[.slice A rw.length c, .slice B n d] w fun e w' => ∃ g, e = .returned (.slice (some ⟨g, 0, none⟩) m m) ∧ w.heap.size ≤ g ∧ RowAt w' g m (tcol ρ l n) ∧ Below w.heap.size w w' := by
  rw [hn] at hL
  have HL := Aside0.mk hL
  have HR := Aside0.mk hR
  have HRW := Aside0.mk hrw
  have HOK := Aside0.mk hok
  have HM := Aside0.mk hm
  have HT := Aside0.mk (tcol_lt (l := l) hρ)
  have HP := Aside0.mk (fun (i : Nat) (W : World) => products61 W (ρ i) (hρ i))
  obtain ⟨nr, hnr'⟩ : ∃ nr, rw.length = nr := ⟨_, rfl⟩
  rw [hnr'] at HRW HR hnr ⊢
  have HNR := Aside0.mk hnr'
  obtain ⟨ad, A0, c0, eA, hx, hl, hi⟩ := rows_at hL (i := 0) hn0
  rw [hm 0 hn0] at hx
  subst eA
  clear hl hi hR hL hok hm hrw hnr' hn
  have hn0' : (0 : Int) < (n : Int) := by omega
  have hmk := make_row m hm9
  rw [show ad.add 0 = ad by simp [Addr.add]] at hx
  go_enter Try.func32, Try.ntmps32
  go_wp2_with fail
  have HZ := Aside0.mk (show RowAt (w.alloc (.cells (byC m fun _ => 0) 5)) w.heap.size m (tcol ρ l 0) from heap_alloc_last _ _)
  have HB0 := Aside0.mk (below_alloc (Below.refl w.heap.size w) (.cells (byC m fun _ => 0) 5))
  clear hmk hx hn0'
  generalize w.alloc (.cells (byC m fun _ => 0) 5) = wz at *
  obtain ⟨g, hg⟩ : ∃ g, w.heap.size = g := ⟨_, rfl⟩
  have HG := Aside0.mk hg
  rw [hg] at HZ ⊢
  clear hg
  go_loopw [18] (fun i W => ∃ (k : Nat), k ≤ n ∧ i = .int .i64 k ∧ Aside0 (RowAt W g m (tcol ρ l k)) ∧ Aside0 (Below w.heap.size w W)) (fun i _ => n - (intOf i).toNat)
  case atStart => exact ⟨0, Nat.zero_le _, rfl, HZ, HB0⟩
  case round =>
    clear HZ HB0
    clear wz
    obtain ⟨k, hk, rfl, HO, HB⟩ := hrel
    by_cases hkn : k < n
    · clear hk
      obtain ⟨ad', A1, c1, eA, hx, hl, hi⟩ := rows_at HL.out (i := k) hkn
      obtain rfl : ad = ad' := by injection eA
      rw [HM.out k hkn] at hx hi
      replace hx := pw_cell_below HB.out hx
      obtain ⟨ar, eR, hr⟩ := byte_at (r := rw) (by rw [HNR.out]; exact HR.out) (j := k) (by rw [HNR.out]; omega)
      subst eR
      rw [HRW.out k (by omega)] at hr
      replace hr := pw_cell_below HB.out hr
      have HPk := Aside0.mk (HP.out k)
      have HI := Aside0.mk hi
      have HTk := Aside0.mk (tcol_succ ρ l k)
      have hrk : ρ k < 256 := hρ k
      have HKn := Aside0.mk hkn
      have hki : decide ((k : Int) < (n : Int)) = true := decide_eq_true (by omega)
      have hk0 : (0 : Int) ≤ (k : Int) := by omega
      have hk1 : (k : Int) < (n : Int) := by omega
      have hk2 : (k : Int) < (nr : Int) := by omega
      clear hi eA hl
      obtain ⟨y, hy⟩ : ∃ y, ρ k = y := ⟨_, rfl⟩
      rw [hy] at hr HPk HTk hrk
      clear hy
      go_wp2_with (first
        | (go_at_call 61; refine Calls.mono (HPk.out _) ?_; rintro e w1 ⟨rfl, hb1⟩; have HB1 := Aside0.mk hb1; clear hb1)
        | ((with_reducible refine gate_store (t := 82) (p := 8) (v := .tmp 27) rfl ?_); refine wpList_store_row rfl 82 (.tmp 8) (.tmp 27) rfl w1.heap.size (pT y) rfl rfl 82 Try.zeroCells82 (heap_alloc_last _ _) info82 rfl (rowCells_one _ _ _) ?_; rw [World.setRow_alloc_new]))
      have HW := Aside0.mk (store_prod HO.out HB1.out (.cells (pT y) 82))
      have HT2 := Aside0.mk (heap_alloc_last w1 (.cells (pT y) 82))
      have HB2 := Aside0.mk (below_alloc (below_then HB.out HB.out.size HB1.out) (.cells (pT y) 82))
      have hgG : g ≠ w1.heap.size := by
        have h1 := heap_lt HO.out
        have h2 := HB1.out.size
        omega
      generalize w1.alloc (.cells (pT y) 82) = wz at *
      generalize w1.heap.size = G at *
      clear HB1 HO HB hx hr hki hk0 hk1 hk2
      go_loopw [30] (fun i W => ∃ (q : Nat), q ≤ m ∧ i = .int .i64 q ∧ Aside0 (RowAt W g m (fun x => if x < q then tcol ρ l (k + 1) x else tcol ρ l k x)) ∧ Aside0 (W.heap[G]? = some (.cells (pT y) 82 (0, 0))) ∧ Aside0 (Below w.heap.size w W)) (fun i _ => m - (intOf i).toNat)
      case atStart => exact ⟨0, Nat.zero_le _, rfl, ⟨HW.out.same (fun j _ => by simp)⟩, HT2, HB2⟩
      case round =>
        clear HW HT2 HB2
        clear wz
        obtain ⟨q, hq, rfl, HO, HT2, HB⟩ := hrel
        by_cases hqm : q < m
        · clear hq
          have hcell := HO.out.cell hqm
          rw [if_neg (Nat.lt_irrefl q)] at hcell
          have hfr := HO.out.frozen q
          obtain ⟨ai, eI, hi⟩ := byte_at (r := row l k) (by rw [HM.out k HKn.out]; exact HI.out) (j := q) (by rw [HM.out k HKn.out]; exact hqm)
          have hb := okB_at HOK.out k q
          rw [hb.2] at hi
          subst eI
          replace hi := pw_cell_below HB.out hi
          have hprod : wr.cell? ⟨G, byt l k q, none⟩ = some (.int .u8 ((GfM.M y (byt l k q) : Nat) : Int)) := by
            rw [cell_of_row wr G (byt l k q) _ 82 (0, 0) HT2.out]
            unfold pT
            rw [rowCells_get hb.1, if_pos hb.1]
          have hxr : Go.bits .xor .u8 ((tcol ρ l k q : Nat) : Int) ((GfM.M y (byt l k q) : Nat) : Int) = ((tcol ρ l (k + 1) q : Nat) : Int) := by
            rw [xor_nat _ _ (HT.out k q) (GfM.M_lt _ _ hrk), HTk.out q]
          have HO2 := Aside0.mk (fun (W : World) (hW : RowAt W g m (fun x => if x < q then tcol ρ l (k + 1) x else tcol ρ l k x)) => ((hW.set_ q (tcol ρ l (k + 1) q)).same (fun j _ => by
            by_cases e : j = q
            · subst e; simp
            · by_cases h : j < q
              · rw [if_neg e, if_pos h, if_pos (by omega)]
              · rw [if_neg e, if_neg h, if_neg (by omega)]) : RowAt (W.setCell ⟨g, q, none⟩ (.int .u8 ((tcol ρ l (k + 1) q : Nat) : Int))) g m (fun x => if x < q + 1 then tcol ρ l (k + 1) x else tcol ρ l k x)))
          have hqi : decide ((q : Int) < (m : Int)) = true := decide_eq_true (by omega)
          have hq0 : (0 : Int) ≤ (q : Int) := by omega
          have hq1 : (q : Int) < (m : Int) := by omega
          have hb0 : (0 : Int) ≤ ((byt l k q : Nat) : Int) := by omega
          have hb1 : ((byt l k q : Nat) : Int) < 256 := by have := hb.1; omega
          clear hb
          generalize byt l k q = b at *
          generalize GfM.M y b = s at *
          generalize tcol ρ l (k + 1) q = t' at *
          generalize tcol ρ l k q = t at *
          go_wp2_with fail
          refine start_ (n := 10) (S := fun w' => w'.cell? ⟨g, q, none⟩ = some (.int .u8 (t : Int)) ∧ w'.cell? ⟨G, b, none⟩ = some (.int .u8 (s : Int))) (ds := [9]) #[false, false, false, false, false, false, false, false, false, false] (by kernel_rfl) rfl rfl ⟨hcell, hprod⟩ (fun hHeld => ?_)
          refine with_tabW times32.tab9 times32.bits9 (fun HT_ HW_ => ?_)
          refine pure_ (i := 0) (N := some 35) (v := ?_) (a' := ?_) #[true, false, false, false, false, false, false, false, false, false] rfl rfl (any_of HT_.out (by kernel_rfl)) (fun _ _ _ h => h) (Or.inl ⟨by rfl, ?_⟩) ?_ ?_
          rotate_left
          · intro w'
            go_simp
            with_reducible rfl
          rotate_left
          · simp only [Act.put, List.setIfInBounds_toArray, List.set_cons_zero, List.set_cons_succ, i64_w, i32_w]
            rfl
          refine pure_ (i := 1) (N := some 36) (v := ?_) (a' := ?_) #[true, true, false, false, false, false, false, false, false, false] rfl rfl (any_of HT_.out (by kernel_rfl)) (fun _ _ _ h => h) (Or.inl ⟨by rfl, ?_⟩) ?_ ?_
          rotate_left
          · intro w'
            go_simp
            with_reducible rfl
          rotate_left
          · simp only [Act.put, List.setIfInBounds_toArray, List.set_cons_zero, List.set_cons_succ, i64_w, i32_w]
            rfl
          refine pure_ (i := 2) (N := some 37) (v := ?_) (a' := ?_) #[true, true, true, false, false, false, false, false, false, false] rfl rfl (any_of HT_.out (by kernel_rfl)) (fun _ _ _ h => h) (Or.inl ⟨by rfl, ?_⟩) ?_ ?_
          rotate_left
          · intro w'
            go_simp
            with_reducible rfl
          rotate_left
          · simp only [Act.put, List.setIfInBounds_toArray, List.set_cons_zero, List.set_cons_succ, i64_w, i32_w]
            rfl
          refine pure_ (i := 4) (N := some 39) (v := ?_) (a' := ?_) #[true, true, true, false, true, false, false, false, false, false] rfl rfl (any_of HT_.out (by kernel_rfl)) (fun _ _ _ h => h) (Or.inl ⟨by rfl, ?_⟩) ?_ ?_
          rotate_left
          · intro w'
            go_simp
            with_reducible rfl
          rotate_left
          · simp only [Act.put, List.setIfInBounds_toArray, List.set_cons_zero, List.set_cons_succ, i64_w, i32_w]
            rfl
          refine pure_ (i := 5) (N := some 40) (v := ?_) (a' := ?_) #[true, true, true, false, true, true, false, false, false, false] rfl rfl (any_of HT_.out (by kernel_rfl)) (fun _ _ _ h => h) (Or.inl ⟨by rfl, ?_⟩) ?_ ?_
          rotate_left
          · intro w'
            go_simp
            with_reducible rfl
          rotate_left
          · simp only [Act.put, List.setIfInBounds_toArray, List.set_cons_zero, List.set_cons_succ, i64_w, i32_w]
            rfl
          refine take_ (i := 3) (N := some 38) (v := ?_) (a' := ?_) #[true, true, true, true, true, true, false, false, false, false] rfl rfl (take_ofW HT_.out HW_.out (by kernel_rfl)) (fun _ _ _ h => h) (Or.inl ⟨by rfl, ?_⟩) hHeld ?_ ?_
          rotate_left
          · rintro w' ⟨s0, s1⟩
            go_simp
            with_reducible rfl
          rotate_left
          · simp only [Act.put, List.setIfInBounds_toArray, List.set_cons_zero, List.set_cons_succ, i64_w, i32_w]
            rfl
          refine take_ (i := 6) (N := some 41) (v := ?_) (a' := ?_) #[true, true, true, true, true, true, true, false, false, false] rfl rfl (take_ofW HT_.out HW_.out (by kernel_rfl)) (fun _ _ _ h => h) (Or.inl ⟨by rfl, ?_⟩) hHeld ?_ ?_
          rotate_left
          · rintro w' ⟨s0, s1⟩
            go_simp
            with_reducible rfl
          rotate_left
          · simp only [Act.put, List.setIfInBounds_toArray, List.set_cons_zero, List.set_cons_succ, i64_w, i32_w]
            rfl
          refine pure_ (i := 7) (N := some 42) (v := ?_) (a' := ?_) #[true, true, true, true, true, true, true, true, false, false] rfl rfl (any_of HT_.out (by kernel_rfl)) (fun _ _ _ h => h) (Or.inl ⟨by rfl, ?_⟩) ?_ ?_
          rotate_left
          · intro w'
            go_simp
            with_reducible rfl
          rotate_left
          · simp only [Act.put, List.setIfInBounds_toArray, List.set_cons_zero, List.set_cons_succ, i64_w, i32_w]
            rfl
          refine pure_ (i := 8) (N := some 43) (v := ?_) (a' := ?_) #[true, true, true, true, true, true, true, true, true, false] rfl rfl (any_of HT_.out (by kernel_rfl)) (fun _ _ _ h => h) (Or.inl ⟨by rfl, ?_⟩) ?_ ?_
          rotate_left
          · intro w'
            go_simp
            with_reducible rfl
          rotate_left
          · simp only [Act.put, List.setIfInBounds_toArray, List.set_cons_zero, List.set_cons_succ, i64_w, i32_w]
            rfl
          refine last_ (i := 9) (N := none) #[true, true, true, true, true, true, true, true, true, true] rfl rfl (one_of HT_.out (by kernel_rfl)) (by decide) (fun K hK => ?_)
          refine skip_ (w1 := ?_) (by rfl) rfl ?_ ?_
          rotate_left
          · go_simp
            rfl
          refine hK.out _ _ ?_
          clear hK K
          refine done_ (done_of HT_.out (by kernel_rfl)) ?_
          go_wp2_with fail
          go_roundw
          case measure => simp [intOf]; omega
          case rel => exact ⟨q + 1, by omega, by go_num, ⟨HO2.out _ HO.out⟩, ⟨(heap_far HT2.out hgG)⟩, ⟨below_set (pw_below_drewN HB.out _) (by rw [← HG.out]; exact Nat.le_refl _)⟩⟩
        · obtain rfl : q = m := by omega
          have hqi : decide ((q : Int) < (q : Int)) = false := decide_eq_false (by omega)
          have HO3 := Aside0.mk (HO.out.same (g := tcol ρ l (k + 1)) (fun j hj => by rw [if_pos hj]))
          clear HO HT2
          go_wp2_with fail
          go_roundw
          case measure => simp [intOf]; have := HKn.out; omega
          case rel => exact ⟨k + 1, by have := HKn.out; omega, by go_num, HO3, HB⟩
    · obtain rfl : k = n := by omega
      go_wp2_with fail
      go_ret
      exact ⟨g, rfl, by rw [HG.out]; exact Nat.le_refl _, HO.out, HB.out⟩
end Go.Proofs.Ytjolnjckgoilpaa.Rs
