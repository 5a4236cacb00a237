/-
  Newest: the newest fact that is not elided; the set's and the reference's.
-/
import Derived.Test.YtpfkfnphjbgohaaElApart
import Derived.Test.YtpfkfnphjbgohaaElRAdd
import Derived.Deep.QuietTactic
import Derived.BigQuiet
set_option linter.unusedVariables false
set_option linter.unusedSimpArgs false
namespace Go.Proofs.Ytpfkfnphjbgohaa.El
open Go.RowKit Go.Proofs.YtpfkfnphjbgohaaW.PrintWords Go.Proofs.YtpfkfnphjbgohaaW.PrintLast Go.Proofs.YtpfkfnphjbgohaaW.PrintMore Go.Proofs.Ytpfkfnphjbgohaa.PEa
attribute [local go_sem] binS_leq binS_gtr binS_geq max2_int min2_int max_two min_two maxS_two minS_two
/-- The place of the newest of the first k. -/
def bst (l : List S46) : Nat → Nat
  | 0 => 0
  | k + 1 => if k = 0 then 0 else if (rd_T46 l (bst l k : Nat)).f1 < (rd_T46 l (k : Nat)).f1 then k else bst l k
theorem bst_lt (l : List S46) : ∀ k, 0 < k → bst l k < k
  | 0, h => by omega
  | k + 1, _ => by
    unfold bst
    split
    · omega
    · split
      · omega
      · have := bst_lt l k (by omega); omega
def newF (xs : List S27) (l : List S46) : S46 × Bool :=
  if l.length = 0 then (z46, false) else if hasB xs (rd_T46 l (bst l l.length : Nat)).f0 (rd_T46 l (bst l l.length : Nat)).f1 = true then (z46, false) else (rd_T46 l (bst l l.length : Nat), true)
def NstQ (w : World) (x : S46) (b : Bool) (r : Ending) (w' : World) : Prop :=
  ∃ A c, r = .returned (.tuple #[.agg #[.string x.f0, .int .u64 x.f1, .slice A x.f2.length c], .bool b]) ∧ x.f2.length ≤ c ∧ Kd.C (Kd.int .u8) w' A x.f2.length x.f2 ∧ Below w.heap.size w w'
theorem C_nilB (W : World) (A : Option Addr) : Kd.C (Kd.int .u8) W A ([] : List Int).length [] := ⟨rfl, by simp, fun h => absurd h (Nat.lt_irrefl 0)⟩
theorem box46_put {W : World} {g : Nat} {f0 f0' : ByteArray} {f1 f1' : Int} {v v' : Value} (h : box46 W g f0 f1 v) : box46 (((W.setCell ⟨g, 0, none⟩ (.string f0')).setCell ⟨g, 1, none⟩ (.int .u64 f1')).setCell ⟨g, 2, none⟩ v') g f0' f1' v' := blk_set (blk_set (blk_set h 0 (.string f0')) 1 (.int .u64 f1')) 2 v'
theorem below_put {B : Nat} {w W : World} {g : Nat} (h : Below B w W) (hg : B ≤ g) (a b c : Value) : Below B w (((W.setCell ⟨g, 0, none⟩ a).setCell ⟨g, 1, none⟩ b).setCell ⟨g, 2, none⟩ c) :=
  ((h.setCell (p := ⟨g, 0, none⟩) hg a).setCell (p := ⟨g, 1, none⟩) hg b).setCell (p := ⟨g, 2, none⟩) hg c
theorem heap_put {W : World} {g k : Nat} (h : k ≠ g) (a b c : Value) : (((W.setCell ⟨g, 0, none⟩ a).setCell ⟨g, 1, none⟩ b).setCell ⟨g, 2, none⟩ c).heap[k]? = W.heap[k]? :=
  (Below.heap_setCell _ _ _ _ h).trans ((Below.heap_setCell _ _ _ _ h).trans (Below.heap_setCell _ _ _ _ h))
theorem below_undrew {w w' : World} (h : Below w.drew.heap.size w.drew w') : Below w.heap.size w w' := ⟨h.os, h.tape, h.output, h.size, h.block⟩
theorem R_put {W : World} {g base : Nat} {f0 f0' : ByteArray} {f1 f1' : Int} {v v' u : Value} {xs : List Int} {P : Nat → Prop} (hR : Kd.R (Kd.int .u8) 5 W base P u xs) (h : box46 W g f0 f1 v) : Kd.R (Kd.int .u8) 5 (((W.setCell ⟨g, 0, none⟩ (.string f0')).setCell ⟨g, 1, none⟩ (.int .u64 f1')).setCell ⟨g, 2, none⟩ v') base P u xs :=
  Kd.R_set (Kd.R_set (Kd.R_set hR h (by decide) 0 (.string f0')) (blk_set h 0 (.string f0')) (by decide) 1 (.int .u64 f1')) (blk_set (blk_set h 0 (.string f0')) 1 (.int .u64 f1')) (by decide) 2 v'
set_option maxHeartbeats 8000000 in
set_option maxRecDepth 100000 in
theorem newest17 (w : World) (gs : Nat) (Ax : Option Addr) (cx : Nat) (xs : List S27) (hs : w.heap[gs]? = some (.cells #[.slice Ax xs.length cx] 64 (0, 0))) (hCx : Kd.C k27 w Ax xs.length xs) (hlx : xs.length ≤ 1000000) (hp : Pln xs)
    (A : Option Addr) (c : Nat) (l : List S46) (hC : Kd.C k46 w A l.length l) (hl : l.length ≤ 1000000000) (hbl : ∀ x ∈ l, x.f2.length ≤ 1000000000) :
    Calls Try.prog 17 #[.pointer (some ⟨gs, 0, none⟩), .slice A l.length c] w (NstQ w (newF xs l).1 (newF xs l).2) := by
  have HHas := Aside0.mk (fun (W : World) (hb : Below w.heap.size w W) (key : ByteArray) (seq : Int) => has13 W gs Ax cx xs key seq (blk_below hs hb) (Kd.C_below hCx hb) hlx hp)
  obtain ⟨n, hn⟩ : ∃ n, l.length = n := ⟨_, rfl⟩
  rw [hn] at hC hl ⊢
  have HC := Aside0.mk hC
  have HN := Aside0.mk hn
  have HBl := Aside0.mk hbl
  clear hC hn hs hCx hlx hp hbl
  go_enter Try.func17, Try.ntmps17
  go_wp2_with (first
    | ((with_reducible refine gate_dst (N := 4) rfl ?_); refine box_event ?hg (N := 4) ?hd (cs := #[.string ⟨#[]⟩, .int .u64 0, .slice none 0 0]) (t := 46) ?hr ?_; (case hd => rfl); (case hg => rfl); (case hr => first | (go_simp; done) | (go_simp; rfl)); intro gr hgr w1 hbox hb; have HB := Aside0.mk hb; have HR := Aside0.mk (show box46 w1 gr ⟨#[]⟩ 0 (.slice none 0 0) from hbox); have HG := Aside0.mk (show w.heap.size ≤ gr by omega); clear hb hbox hgr))
  go_loopw [6, 11] (fun b i W => ∃ k : Nat, k ≤ n ∧ i = .int .i64 k ∧ (¬ 0 < k ∧ b = .int .i64 (-1) ∨ 0 < k ∧ b = .int .i64 (bst l k : Nat)) ∧ Aside0 (Below w.heap.size w W) ∧ Aside0 (box46 W gr ⟨#[]⟩ 0 (.slice none 0 0))) (fun _ i _ => n - (intOf i).toNat)
  case atStart => exact ⟨0, Nat.zero_le _, rfl, .inl ⟨Nat.lt_irrefl 0, rfl⟩, HB, HR⟩
  case round =>
    clear HB HR
    obtain ⟨k, hk, rfl, hb0, HB, HR⟩ := hrel
    by_cases hkn : k < n
    · clear hk
      obtain ⟨x, hx⟩ : ∃ x, rd_T46 l (k : Int) = x := ⟨_, rfl⟩
      have hC := Kd.C_below HC.out HB.out
      obtain ⟨ad, A2, c2, eA, x0, x1, x2, x3, x4⟩ := at_T46 hC (k : Int) (by omega) (by omega)
      subst eA
      rw [hx] at x0 x1 x2 x3 x4
      rw [Int.toNat_natCast] at x0 x1 x2
      have HX := Aside0.mk hx
      clear x3 x4
      rcases hb0 with ⟨hk0, rfl⟩ | ⟨hk0, rfl⟩
      · clear hx hC
        go_wp2_with fail
        have HBa := below_alloc (Below.refl wr.heap.size wr) (.cells #[.string x.f0, .int .u64 x.f1, .slice A2 x.f2.length c2] 46)
        have hbx : box46 (wr.alloc (.cells #[.string x.f0, .int .u64 x.f1, .slice A2 x.f2.length c2] 46)) wr.heap.size x.f0 x.f1 (.slice A2 x.f2.length c2) := blk_new wr _
        have hbc := box46_cells hbx
        have HB2 := Aside0.mk (below_then HB.out HB.out.size HBa)
        have HR2 := Aside0.mk (show box46 _ gr ⟨#[]⟩ 0 (.slice none 0 0) from blk_below HR.out HBa)
        clear HBa hbx x0 x1 x2
        generalize wr.alloc (.cells #[.string x.f0, .int .u64 x.f1, .slice A2 x.f2.length c2] 46) = w2 at *
        go_quiet (fail)
        go_wp2_with fail
        go_roundw
        case measure => simp [intOf]; omega
        case rel => exact ⟨k + 1, by omega, by go_num, .inr ⟨by omega, by rw [bst, if_pos (show k = 0 by omega), show k = 0 by omega]⟩, ⟨pw_below_drewN HB2.out _⟩, HR2⟩
      · have hbk := bst_lt l k hk0
        obtain ⟨y, hy⟩ : ∃ y, rd_T46 l (bst l k : Nat) = y := ⟨_, rfl⟩
        have hS : bst l (k + 1) = if y.f1 < x.f1 then k else bst l k := by rw [bst, if_neg (by omega), hy, hx]
        have HS := Aside0.mk hS
        clear hS
        obtain ⟨b, hb⟩ : ∃ b, bst l k = b := ⟨_, rfl⟩
        rw [hb] at HS hbk hy ⊢
        obtain ⟨ad', A3, c3, eA, y0, y1, y2, y3, y4⟩ := at_T46 hC (b : Int) (by omega) (by omega)
        obtain rfl : ad = ad' := by injection eA
        rw [hy] at y0 y1 y2 y3 y4
        rw [Int.toNat_natCast] at y0 y1 y2
        clear eA hx hC hy hb y3 y4
        have y1a := pw_cell_below (below_alloc (Below.refl wr.heap.size wr) (.cells #[.string x.f0, .int .u64 x.f1, .slice A2 x.f2.length c2] 46)) y1
        have hbi0 : (0 : Int) ≤ (b : Int) := by omega
        have hbi : (b : Int) < (n : Int) := by omega
        have hbn : decide ((b : Int) < 0) = false := decide_eq_false (by omega)
        by_cases hlt : y.f1 < x.f1
        · have HLT := Aside0.mk hlt
          go_wp2_with fail
          have HBa := below_alloc (Below.refl wr.heap.size wr) (.cells #[.string x.f0, .int .u64 x.f1, .slice A2 x.f2.length c2] 46)
          have hbx : box46 (wr.alloc (.cells #[.string x.f0, .int .u64 x.f1, .slice A2 x.f2.length c2] 46)) wr.heap.size x.f0 x.f1 (.slice A2 x.f2.length c2) := blk_new wr _
          have hbc := box46_cells hbx
          have HB2 := Aside0.mk (below_then HB.out HB.out.size HBa)
          have HR2 := Aside0.mk (show box46 _ gr ⟨#[]⟩ 0 (.slice none 0 0) from blk_below HR.out HBa)
          clear HBa hbx x0 x1 x2 y0 y1 y2
          generalize wr.alloc (.cells #[.string x.f0, .int .u64 x.f1, .slice A2 x.f2.length c2] 46) = w2 at *
          go_quiet (fail)
          go_wp2_with fail
          go_roundw
          case measure => simp [intOf]; omega
          case rel => exact ⟨k + 1, by omega, by go_num, .inr ⟨by omega, by rw [HS.out, if_pos HLT.out]⟩, ⟨pw_below_drewN HB2.out _⟩, HR2⟩
        · have HLT := Aside0.mk hlt
          have hdec : decide (y.f1 < x.f1) = false := decide_eq_false hlt
          go_wp2_with fail
          have HBa := below_alloc (Below.refl wr.heap.size wr) (.cells #[.string x.f0, .int .u64 x.f1, .slice A2 x.f2.length c2] 46)
          have hbx : box46 (wr.alloc (.cells #[.string x.f0, .int .u64 x.f1, .slice A2 x.f2.length c2] 46)) wr.heap.size x.f0 x.f1 (.slice A2 x.f2.length c2) := blk_new wr _
          have hbc := box46_cells hbx
          have HB2 := Aside0.mk (below_then HB.out HB.out.size HBa)
          have HR2 := Aside0.mk (show box46 _ gr ⟨#[]⟩ 0 (.slice none 0 0) from blk_below HR.out HBa)
          clear HBa hbx x0 x1 x2 y0 y1 y2
          generalize wr.alloc (.cells #[.string x.f0, .int .u64 x.f1, .slice A2 x.f2.length c2] 46) = w2 at *
          go_quiet (fail)
          go_wp2_with fail
          go_roundw
          case measure => simp [intOf]; omega
          case rel => exact ⟨k + 1, by omega, by go_num, .inr ⟨by omega, by rw [HS.out, if_neg (Int.not_lt.mpr HLT.out)]⟩, ⟨pw_below_drewN HB2.out _⟩, HR2⟩
    · obtain rfl : k = n := by omega
      have hrc := box46_cells HR.out
      have hrf := box46_free HR.out
      rcases hb0 with ⟨hk0, rfl⟩ | ⟨hk0, rfl⟩
      · have HF := Aside0.mk (show newF xs l = (z46, false) by rw [newF, if_pos (by rw [HN.out]; omega)])
        go_wp2_with fail
        go_quiet (fail)
        go_wp2_with fail
        have hr7 := box46_put (f0' := ⟨#[]⟩) (f1' := 0) (v' := .slice none 0 0) HR.out
        refine bodyPost_ret (results_ct rfl _ _ gr 46 _ (0, 0) _ rfl (show box46 _ gr ⟨#[]⟩ 0 (.slice none 0 0) from hr7) Try.underlying46 rfl (by kernel_rfl)) rfl ?_
        rw [HF.out]
        exact ⟨none, 0, rfl, Nat.le_refl _, C_nilB _ _, below_put (pw_below_drewN HB.out _) HG.out _ _ _⟩
      · have hbk := bst_lt l k hk0
        obtain ⟨y, hy⟩ : ∃ y, rd_T46 l (bst l k : Nat) = y := ⟨_, rfl⟩
        have hF : newF xs l = if hasB xs y.f0 y.f1 = true then (z46, false) else (y, true) := by rw [newF, if_neg (by rw [HN.out]; omega), HN.out, hy]
        have hyl := HBl.out y (by rw [← hy]; simp [rd_T46, show bst l k < l.length by rw [HN.out]; omega])
        have HH := Aside0.mk (fun (W : World) (hb : Below w.heap.size w W) => HHas.out W hb y.f0 y.f1)
        obtain ⟨V, hV⟩ : ∃ V, hasB xs y.f0 y.f1 = V := ⟨_, rfl⟩
        rw [hV] at hF HH
        have HF := Aside0.mk hF
        obtain ⟨b, hb⟩ : ∃ b, bst l k = b := ⟨_, rfl⟩
        rw [hb] at hbk hy ⊢
        have hC := Kd.C_below HC.out HB.out
        obtain ⟨ad, A3, c3, eA, y0, y1, y2, y3, y4⟩ := at_T46 hC (b : Int) (by omega) (by omega)
        subst eA
        rw [hy] at y0 y1 y2 y3 y4
        rw [Int.toNat_natCast] at y0 y1 y2
        have HYL := Aside0.mk (And.intro y3 (And.intro y4 hyl))
        have hbi0 : (0 : Int) ≤ (b : Int) := by omega
        have hbi : (b : Int) < (k : Int) := by omega
        have hbn : decide ((b : Int) < 0) = false := decide_eq_false (by omega)
        clear hC hy hb y3 y4 hF hV hyl
        cases V
        · have HV := HH
          clear HH
          go_wp2_with fail
          refine start_ (n := 16) (S := fun w' => w'.cell? (ad.add (b * 3)) = some (.string y.f0) ∧ w'.cell? ⟨(ad.add (b * 3)).block, (ad.add (b * 3)).off + 1, none⟩ = some (.int .u64 y.f1)) (ds := [14]) #[false, false, false, false, false, false, false, false, false, false, false, false, false, false, false, false] (by kernel_rfl) rfl rfl ⟨y0, y1⟩ (fun hHeld => ?_)
          refine pure_ (i := 0) (N := some 30) (v := ?_) (a' := ?_) #[true, false, false, false, false, false, false, false, false, false, false, false, false, false, false, false] rfl rfl (by kernel_rfl) (fun _ _ _ h => h) (Or.inl ⟨by rfl, ?_⟩) ?_ ?_
          rotate_left
          · intro w'
            go_simp
            with_reducible rfl
          rotate_left
          · simp only [Act.put, List.setIfInBounds_toArray, List.set_cons_zero, List.set_cons_succ, i64_w, i32_w]
            rfl
          refine pure_ (i := 1) (N := some 31) (v := ?_) (a' := ?_) #[true, true, false, false, false, false, false, false, false, false, false, false, false, false, false, false] rfl rfl (by kernel_rfl) (fun _ _ _ h => h) (Or.inl ⟨by rfl, ?_⟩) ?_ ?_
          rotate_left
          · intro w'
            go_simp
            with_reducible rfl
          rotate_left
          · simp only [Act.put, List.setIfInBounds_toArray, List.set_cons_zero, List.set_cons_succ, i64_w, i32_w]
            rfl
          refine pure_ (i := 2) (N := some 32) (v := ?_) (a' := ?_) #[true, true, true, false, false, false, false, false, false, false, false, false, false, false, false, false] rfl rfl (by kernel_rfl) (fun _ _ _ h => h) (Or.inl ⟨by rfl, ?_⟩) ?_ ?_
          rotate_left
          · intro w'
            go_simp
            with_reducible rfl
          rotate_left
          · simp only [Act.put, List.setIfInBounds_toArray, List.set_cons_zero, List.set_cons_succ, i64_w, i32_w]
            rfl
          refine pure_ (i := 3) (N := some 33) (v := ?_) (a' := ?_) #[true, true, true, true, false, false, false, false, false, false, false, false, false, false, false, false] rfl rfl (by kernel_rfl) (fun _ _ _ h => h) (Or.inl ⟨by rfl, ?_⟩) ?_ ?_
          rotate_left
          · intro w'
            go_simp
            with_reducible rfl
          rotate_left
          · simp only [Act.put, List.setIfInBounds_toArray, List.set_cons_zero, List.set_cons_succ, i64_w, i32_w]
            rfl
          refine pure_ (i := 4) (N := some 34) (v := ?_) (a' := ?_) #[true, true, true, true, true, false, false, false, false, false, false, false, false, false, false, false] rfl rfl (by kernel_rfl) (fun _ _ _ h => h) (Or.inl ⟨by rfl, ?_⟩) ?_ ?_
          rotate_left
          · intro w'
            go_simp
            with_reducible rfl
          rotate_left
          · simp only [Act.put, List.setIfInBounds_toArray, List.set_cons_zero, List.set_cons_succ, i64_w, i32_w]
            rfl
          refine pure_ (i := 5) (N := some 35) (v := ?_) (a' := ?_) #[true, true, true, true, true, true, false, false, false, false, false, false, false, false, false, false] rfl rfl (by kernel_rfl) (fun _ _ _ h => h) (Or.inl ⟨by rfl, ?_⟩) ?_ ?_
          rotate_left
          · intro w'
            go_simp
            with_reducible rfl
          rotate_left
          · simp only [Act.put, List.setIfInBounds_toArray, List.set_cons_zero, List.set_cons_succ, i64_w, i32_w]
            rfl
          refine pure_ (i := 6) (N := some 36) (v := ?_) (a' := ?_) #[true, true, true, true, true, true, true, false, false, false, false, false, false, false, false, false] rfl rfl (by kernel_rfl) (fun _ _ _ h => h) (Or.inl ⟨by rfl, ?_⟩) ?_ ?_
          rotate_left
          · intro w'
            go_simp
            with_reducible rfl
          rotate_left
          · simp only [Act.put, List.setIfInBounds_toArray, List.set_cons_zero, List.set_cons_succ, i64_w, i32_w]
            rfl
          refine pure_ (i := 7) (N := some 37) (v := ?_) (a' := ?_) #[true, true, true, true, true, true, true, true, false, false, false, false, false, false, false, false] rfl rfl (by kernel_rfl) (fun _ _ _ h => h) (Or.inl ⟨by rfl, ?_⟩) ?_ ?_
          rotate_left
          · intro w'
            go_simp
            with_reducible rfl
          rotate_left
          · simp only [Act.put, List.setIfInBounds_toArray, List.set_cons_zero, List.set_cons_succ, i64_w, i32_w]
            rfl
          refine pure_ (i := 9) (N := some 39) (v := ?_) (a' := ?_) #[true, true, true, true, true, true, true, true, false, true, false, false, false, false, false, false] rfl rfl (by kernel_rfl) (fun _ _ _ h => h) (Or.inl ⟨by rfl, ?_⟩) ?_ ?_
          rotate_left
          · intro w'
            go_simp
            with_reducible rfl
          rotate_left
          · simp only [Act.put, List.setIfInBounds_toArray, List.set_cons_zero, List.set_cons_succ, i64_w, i32_w]
            rfl
          refine pure_ (i := 10) (N := some 40) (v := ?_) (a' := ?_) #[true, true, true, true, true, true, true, true, false, true, true, false, false, false, false, false] rfl rfl (by kernel_rfl) (fun _ _ _ h => h) (Or.inl ⟨by rfl, ?_⟩) ?_ ?_
          rotate_left
          · intro w'
            go_simp
            with_reducible rfl
          rotate_left
          · simp only [Act.put, List.setIfInBounds_toArray, List.set_cons_zero, List.set_cons_succ, i64_w, i32_w]
            rfl
          refine pure_ (i := 11) (N := some 41) (v := ?_) (a' := ?_) #[true, true, true, true, true, true, true, true, false, true, true, true, false, false, false, false] rfl rfl (by kernel_rfl) (fun _ _ _ h => h) (Or.inl ⟨by rfl, ?_⟩) ?_ ?_
          rotate_left
          · intro w'
            go_simp
            with_reducible rfl
          rotate_left
          · simp only [Act.put, List.setIfInBounds_toArray, List.set_cons_zero, List.set_cons_succ, i64_w, i32_w]
            rfl
          refine pure_ (i := 12) (N := some 42) (v := ?_) (a' := ?_) #[true, true, true, true, true, true, true, true, false, true, true, true, true, false, false, false] rfl rfl (by kernel_rfl) (fun _ _ _ h => h) (Or.inl ⟨by rfl, ?_⟩) ?_ ?_
          rotate_left
          · intro w'
            go_simp
            with_reducible rfl
          rotate_left
          · simp only [Act.put, List.setIfInBounds_toArray, List.set_cons_zero, List.set_cons_succ, i64_w, i32_w]
            rfl
          refine take_ (i := 8) (N := some 38) (v := ?_) (a' := ?_) #[true, true, true, true, true, true, true, true, true, true, true, true, true, false, false, false] rfl rfl (by kernel_rfl) (fun _ _ _ h => h) (Or.inl ⟨by rfl, ?_⟩) hHeld ?_ ?_
          rotate_left
          · rintro w' ⟨s0, s1⟩
            go_simp
            with_reducible rfl
          rotate_left
          · simp only [Act.put, List.setIfInBounds_toArray, List.set_cons_zero, List.set_cons_succ, i64_w, i32_w]
            rfl
          refine take_ (i := 13) (N := some 43) (v := ?_) (a' := ?_) #[true, true, true, true, true, true, true, true, true, true, true, true, true, true, false, false] rfl rfl (by kernel_rfl) (fun _ _ _ h => h) (Or.inl ⟨by rfl, ?_⟩) hHeld ?_ ?_
          rotate_left
          · rintro w' ⟨s0, s1⟩
            go_simp
            with_reducible rfl
          rotate_left
          · simp only [Act.put, List.setIfInBounds_toArray, List.set_cons_zero, List.set_cons_succ, i64_w, i32_w]
            rfl
          refine last_ (i := 14) (N := some 44) #[true, true, true, true, true, true, true, true, true, true, true, true, true, true, true, false] rfl rfl (by kernel_rfl) (by decide) (fun K hK => ?_)
          refine goes_ Try.func13 (by kernel_rfl) rfl #[.pointer (some ⟨gs, 0, none⟩), .string y.f0, .int .u64 y.f1] (by rfl) rfl rfl (by simp only [List.map_toArray, List.map_cons, List.map_nil]; rfl) ?_
          refine Calls.mono (HV.out _ (below_drew HB.out)) ?_
          rintro e w5 ⟨rfl, hb5⟩
          refine ⟨_, rfl, ?_⟩
          refine hK.out _ _ ?_
          clear hK K
          refine norm_ (a' := ?_) ?_ ?_
          rotate_left
          · show Act.put _ (some 44) _ = _
            simp only [Act.put, List.setIfInBounds_toArray, List.set_cons_zero, List.set_cons_succ, i64_w, i32_w]
            rfl
          refine pure_ (i := 15) (N := some 45) (v := ?_) (a' := ?_) #[true, true, true, true, true, true, true, true, true, true, true, true, true, true, true, true] rfl rfl (by kernel_rfl) (fun _ _ _ h => h) (Or.inl ⟨by rfl, ?_⟩) ?_ ?_
          rotate_left
          · intro w'
            go_simp
            with_reducible rfl
          rotate_left
          · simp only [Act.put, List.setIfInBounds_toArray, List.set_cons_zero, List.set_cons_succ, i64_w, i32_w]
            rfl
          refine done_ (by kernel_rfl) ?_
          have hb6 := below_then (below_drew HB.out) HB.out.size hb5
          replace hb5 := below_undrew hb5
          have z0 := pw_cell_below hb5 y0
          have z1 := pw_cell_below hb5 y1
          have z2 := pw_cell_below hb5 y2
          have HB6 := Aside0.mk hb6
          have HY := Aside0.mk (And.intro HYL.out.1 (Kd.C_below HYL.out.2.1 hb5))
          have HR6 := Aside0.mk (show box46 w5 gr ⟨#[]⟩ 0 (.slice none 0 0) from blk_below HR.out hb5)
          clear hb6 hb5 y0 y1 y2 hHeld hrc hrf
          go_wp2_with (go_at_call 38; refine (apart38 _ y A3 c3 HY.out.2 HY.out.1 HYL.out.2.2).mono ?_; rintro r w7 ⟨v, rfl, hR, hb⟩; obtain ⟨A7, c7, e7, hc7, hC7⟩ := Kd.R_reads hR; subst e7; have HC7 := Aside0.mk (And.intro hc7 hC7); have HB7 := Aside0.mk (below_then HB6.out HB6.out.size hb); have HR7 := Aside0.mk (show box46 w7 gr ⟨#[]⟩ 0 (.slice none 0 0) from blk_below HR6.out hb); have hrc := box46_cells HR7.out; have hrf := box46_free HR7.out; have HRR := Aside0.mk hR; clear hR hb hc7 hC7 z0 z1 z2)
          have hr7 := box46_put (f0' := y.f0) (f1' := y.f1) (v' := .slice A7 y.f2.length c7) HR7.out
          refine bodyPost_ret (results_ct rfl _ _ gr 46 _ (0, 0) _ rfl (show box46 _ gr y.f0 y.f1 (.slice A7 y.f2.length c7) from hr7) Try.underlying46 rfl (by kernel_rfl)) rfl ?_
          rw [HF.out]
          have hRp := R_put (f0' := y.f0) (f1' := y.f1) (v' := .slice A7 y.f2.length c7) HRR.out HR7.out
          exact ⟨A7, c7, rfl, HC7.out.1, (Kd.R_reads' hRp).2.2, below_put HB7.out HG.out _ _ _⟩
        · have HV := HH
          clear HH
          go_wp2_with fail
          refine start_ (n := 16) (S := fun w' => w'.cell? (ad.add (b * 3)) = some (.string y.f0) ∧ w'.cell? ⟨(ad.add (b * 3)).block, (ad.add (b * 3)).off + 1, none⟩ = some (.int .u64 y.f1)) (ds := [14]) #[false, false, false, false, false, false, false, false, false, false, false, false, false, false, false, false] (by kernel_rfl) rfl rfl ⟨y0, y1⟩ (fun hHeld => ?_)
          refine pure_ (i := 0) (N := some 30) (v := ?_) (a' := ?_) #[true, false, false, false, false, false, false, false, false, false, false, false, false, false, false, false] rfl rfl (by kernel_rfl) (fun _ _ _ h => h) (Or.inl ⟨by rfl, ?_⟩) ?_ ?_
          rotate_left
          · intro w'
            go_simp
            with_reducible rfl
          rotate_left
          · simp only [Act.put, List.setIfInBounds_toArray, List.set_cons_zero, List.set_cons_succ, i64_w, i32_w]
            rfl
          refine pure_ (i := 1) (N := some 31) (v := ?_) (a' := ?_) #[true, true, false, false, false, false, false, false, false, false, false, false, false, false, false, false] rfl rfl (by kernel_rfl) (fun _ _ _ h => h) (Or.inl ⟨by rfl, ?_⟩) ?_ ?_
          rotate_left
          · intro w'
            go_simp
            with_reducible rfl
          rotate_left
          · simp only [Act.put, List.setIfInBounds_toArray, List.set_cons_zero, List.set_cons_succ, i64_w, i32_w]
            rfl
          refine pure_ (i := 2) (N := some 32) (v := ?_) (a' := ?_) #[true, true, true, false, false, false, false, false, false, false, false, false, false, false, false, false] rfl rfl (by kernel_rfl) (fun _ _ _ h => h) (Or.inl ⟨by rfl, ?_⟩) ?_ ?_
          rotate_left
          · intro w'
            go_simp
            with_reducible rfl
          rotate_left
          · simp only [Act.put, List.setIfInBounds_toArray, List.set_cons_zero, List.set_cons_succ, i64_w, i32_w]
            rfl
          refine pure_ (i := 3) (N := some 33) (v := ?_) (a' := ?_) #[true, true, true, true, false, false, false, false, false, false, false, false, false, false, false, false] rfl rfl (by kernel_rfl) (fun _ _ _ h => h) (Or.inl ⟨by rfl, ?_⟩) ?_ ?_
          rotate_left
          · intro w'
            go_simp
            with_reducible rfl
          rotate_left
          · simp only [Act.put, List.setIfInBounds_toArray, List.set_cons_zero, List.set_cons_succ, i64_w, i32_w]
            rfl
          refine pure_ (i := 4) (N := some 34) (v := ?_) (a' := ?_) #[true, true, true, true, true, false, false, false, false, false, false, false, false, false, false, false] rfl rfl (by kernel_rfl) (fun _ _ _ h => h) (Or.inl ⟨by rfl, ?_⟩) ?_ ?_
          rotate_left
          · intro w'
            go_simp
            with_reducible rfl
          rotate_left
          · simp only [Act.put, List.setIfInBounds_toArray, List.set_cons_zero, List.set_cons_succ, i64_w, i32_w]
            rfl
          refine pure_ (i := 5) (N := some 35) (v := ?_) (a' := ?_) #[true, true, true, true, true, true, false, false, false, false, false, false, false, false, false, false] rfl rfl (by kernel_rfl) (fun _ _ _ h => h) (Or.inl ⟨by rfl, ?_⟩) ?_ ?_
          rotate_left
          · intro w'
            go_simp
            with_reducible rfl
          rotate_left
          · simp only [Act.put, List.setIfInBounds_toArray, List.set_cons_zero, List.set_cons_succ, i64_w, i32_w]
            rfl
          refine pure_ (i := 6) (N := some 36) (v := ?_) (a' := ?_) #[true, true, true, true, true, true, true, false, false, false, false, false, false, false, false, false] rfl rfl (by kernel_rfl) (fun _ _ _ h => h) (Or.inl ⟨by rfl, ?_⟩) ?_ ?_
          rotate_left
          · intro w'
            go_simp
            with_reducible rfl
          rotate_left
          · simp only [Act.put, List.setIfInBounds_toArray, List.set_cons_zero, List.set_cons_succ, i64_w, i32_w]
            rfl
          refine pure_ (i := 7) (N := some 37) (v := ?_) (a' := ?_) #[true, true, true, true, true, true, true, true, false, false, false, false, false, false, false, false] rfl rfl (by kernel_rfl) (fun _ _ _ h => h) (Or.inl ⟨by rfl, ?_⟩) ?_ ?_
          rotate_left
          · intro w'
            go_simp
            with_reducible rfl
          rotate_left
          · simp only [Act.put, List.setIfInBounds_toArray, List.set_cons_zero, List.set_cons_succ, i64_w, i32_w]
            rfl
          refine pure_ (i := 9) (N := some 39) (v := ?_) (a' := ?_) #[true, true, true, true, true, true, true, true, false, true, false, false, false, false, false, false] rfl rfl (by kernel_rfl) (fun _ _ _ h => h) (Or.inl ⟨by rfl, ?_⟩) ?_ ?_
          rotate_left
          · intro w'
            go_simp
            with_reducible rfl
          rotate_left
          · simp only [Act.put, List.setIfInBounds_toArray, List.set_cons_zero, List.set_cons_succ, i64_w, i32_w]
            rfl
          refine pure_ (i := 10) (N := some 40) (v := ?_) (a' := ?_) #[true, true, true, true, true, true, true, true, false, true, true, false, false, false, false, false] rfl rfl (by kernel_rfl) (fun _ _ _ h => h) (Or.inl ⟨by rfl, ?_⟩) ?_ ?_
          rotate_left
          · intro w'
            go_simp
            with_reducible rfl
          rotate_left
          · simp only [Act.put, List.setIfInBounds_toArray, List.set_cons_zero, List.set_cons_succ, i64_w, i32_w]
            rfl
          refine pure_ (i := 11) (N := some 41) (v := ?_) (a' := ?_) #[true, true, true, true, true, true, true, true, false, true, true, true, false, false, false, false] rfl rfl (by kernel_rfl) (fun _ _ _ h => h) (Or.inl ⟨by rfl, ?_⟩) ?_ ?_
          rotate_left
          · intro w'
            go_simp
            with_reducible rfl
          rotate_left
          · simp only [Act.put, List.setIfInBounds_toArray, List.set_cons_zero, List.set_cons_succ, i64_w, i32_w]
            rfl
          refine pure_ (i := 12) (N := some 42) (v := ?_) (a' := ?_) #[true, true, true, true, true, true, true, true, false, true, true, true, true, false, false, false] rfl rfl (by kernel_rfl) (fun _ _ _ h => h) (Or.inl ⟨by rfl, ?_⟩) ?_ ?_
          rotate_left
          · intro w'
            go_simp
            with_reducible rfl
          rotate_left
          · simp only [Act.put, List.setIfInBounds_toArray, List.set_cons_zero, List.set_cons_succ, i64_w, i32_w]
            rfl
          refine take_ (i := 8) (N := some 38) (v := ?_) (a' := ?_) #[true, true, true, true, true, true, true, true, true, true, true, true, true, false, false, false] rfl rfl (by kernel_rfl) (fun _ _ _ h => h) (Or.inl ⟨by rfl, ?_⟩) hHeld ?_ ?_
          rotate_left
          · rintro w' ⟨s0, s1⟩
            go_simp
            with_reducible rfl
          rotate_left
          · simp only [Act.put, List.setIfInBounds_toArray, List.set_cons_zero, List.set_cons_succ, i64_w, i32_w]
            rfl
          refine take_ (i := 13) (N := some 43) (v := ?_) (a' := ?_) #[true, true, true, true, true, true, true, true, true, true, true, true, true, true, false, false] rfl rfl (by kernel_rfl) (fun _ _ _ h => h) (Or.inl ⟨by rfl, ?_⟩) hHeld ?_ ?_
          rotate_left
          · rintro w' ⟨s0, s1⟩
            go_simp
            with_reducible rfl
          rotate_left
          · simp only [Act.put, List.setIfInBounds_toArray, List.set_cons_zero, List.set_cons_succ, i64_w, i32_w]
            rfl
          refine last_ (i := 14) (N := some 44) #[true, true, true, true, true, true, true, true, true, true, true, true, true, true, true, false] rfl rfl (by kernel_rfl) (by decide) (fun K hK => ?_)
          refine goes_ Try.func13 (by kernel_rfl) rfl #[.pointer (some ⟨gs, 0, none⟩), .string y.f0, .int .u64 y.f1] (by rfl) rfl rfl (by simp only [List.map_toArray, List.map_cons, List.map_nil]; rfl) ?_
          refine Calls.mono (HV.out _ (below_drew HB.out)) ?_
          rintro e w5 ⟨rfl, hb5⟩
          refine ⟨_, rfl, ?_⟩
          refine hK.out _ _ ?_
          clear hK K
          refine norm_ (a' := ?_) ?_ ?_
          rotate_left
          · show Act.put _ (some 44) _ = _
            simp only [Act.put, List.setIfInBounds_toArray, List.set_cons_zero, List.set_cons_succ, i64_w, i32_w]
            rfl
          refine pure_ (i := 15) (N := some 45) (v := ?_) (a' := ?_) #[true, true, true, true, true, true, true, true, true, true, true, true, true, true, true, true] rfl rfl (by kernel_rfl) (fun _ _ _ h => h) (Or.inl ⟨by rfl, ?_⟩) ?_ ?_
          rotate_left
          · intro w'
            go_simp
            with_reducible rfl
          rotate_left
          · simp only [Act.put, List.setIfInBounds_toArray, List.set_cons_zero, List.set_cons_succ, i64_w, i32_w]
            rfl
          refine done_ (by kernel_rfl) ?_
          have HB6 := Aside0.mk (below_then (below_drew HB.out) HB.out.size hb5)
          replace hb5 := below_undrew hb5
          have HR6 := Aside0.mk (show box46 w5 gr ⟨#[]⟩ 0 (.slice none 0 0) from blk_below HR.out hb5)
          clear hb5 y0 y1 y2 hHeld hrc hrf
          have hrc := box46_cells HR6.out
          have hrf := box46_free HR6.out
          go_wp2_with fail
          have hr7 := box46_put (f0' := ⟨#[]⟩) (f1' := 0) (v' := .slice none 0 0) HR6.out
          refine bodyPost_ret (results_ct rfl _ _ gr 46 _ (0, 0) _ rfl (show box46 _ gr ⟨#[]⟩ 0 (.slice none 0 0) from hr7) Try.underlying46 rfl (by kernel_rfl)) rfl ?_
          rw [HF.out]
          exact ⟨none, 0, rfl, Nat.le_refl _, C_nilB _ _, below_put HB6.out HG.out _ _ _⟩
end Go.Proofs.Ytpfkfnphjbgohaa.El
