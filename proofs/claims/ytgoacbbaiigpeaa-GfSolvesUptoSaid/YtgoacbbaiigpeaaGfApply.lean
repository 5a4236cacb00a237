/-
  The walk of gf.Matrix.Apply.
-/
import Derived.Test.YtgoacbbaiigpeaaGfConcat
import Derived.Test.YtgoacbbaiigpeaaGfAlg
import Derived.Test.YtgoacbbaiigpeaaGfPick
set_option linter.unusedVariables false
set_option linter.unusedSimpArgs false
namespace Go.Proofs.Ytgoacbbaiigpeaa.Gf
open Go.RowKit Go.Proofs.YtgoacbbaiigpeaaW.PrintWords Go.Proofs.YtgoacbbaiigpeaaW.PrintLast Go.Proofs.Ytgoacbbaiigpeaa.PGa

def okV (v : List Int) : Bool := v.all fun x => decide (0 ≤ x) && decide (x < 256)
def vb (v : List Int) (k : Nat) : Nat := (v.getD k 0).toNat
theorem okV_at {v : List Int} (h : okV v = true) (k : Nat) : vb v k < 256 ∧ v.getD k 0 = ((vb v k : Nat) : Int) := by
  have : 0 ≤ v.getD k 0 ∧ v.getD k 0 < 256 := by
    simp only [List.getD_eq_getElem?_getD]
    by_cases hi : k < v.length
    · simp only [hi, List.getElem?_eq_getElem, Option.getD_some]
      have h2 := List.all_eq_true.1 h v[k] (List.getElem_mem hi)
      simpa using h2
    · simp [hi]
  unfold vb
  omega
theorem col60 (W : World) (v : List Int) (A : Option Addr) (c vbx i j : Nat) (hV : KB.C W A v.length v) (hm : W.cell? ⟨vbx, 0, none⟩ = some (.slice A v.length c)) (ok : okV v = true) (hi : i < v.length) :
    Calls Try.prog 60 #[.int .i64 i, .int .i64 j, .pointer (some ⟨vbx, 0, none⟩)] W fun e w' => e = .returned (.int .u8 ((vb v i : Nat) : Int)) ∧ Below W.heap.size W w' := by
  obtain ⟨a2, rfl, h2⟩ := byte_at hV hi
  rw [(okV_at ok i).2] at h2
  have q1 : (0 : Int) ≤ (i : Int) := by omega
  have q2 : (i : Int) < (v.length : Int) := by omega
  generalize vb v i = x at *
  go_enter Try.func60, Try.ntmps60
  go_wp2
  go_ret
  exact ⟨rfl, Below.refl _ _⟩
def column (v : List Int) : List (List Int) := matrix v.length 1 fun i _ => ((vb v i : Nat) : Int)
theorem col_made (w W : World) (v : List Int) (A : Option Addr) (c vbx : Nat) (hW : Below w.heap.size w W) (hV : KB.C w A v.length v) (hm : W.cell? ⟨vbx, 0, none⟩ = some (.slice A v.length c)) (ok : okV v = true) (hl : v.length ≤ 255) :
    Calls Try.prog 39 #[.int .i64 v.length, .int .i64 1, .func (.func 60) #[] #[.pointer (some ⟨vbx, 0, none⟩)]] W
      fun e w' => ∃ v0_ : Value, e = .returned v0_ ∧ Kd.S KR 53 w' W.heap.size (fun _ => True) v0_ (column v) ∧ Below W.heap.size W w' := by
  have h := made_calls W v.length 1 60 #[.pointer (some ⟨vbx, 0, none⟩)] (fun i _ => ((vb v i : Nat) : Int)) hl (by omega) (Go.Proofs.enters_of Try.func60 (by kernel_rfl) rfl) (by
    intro i j hi hj W' hW'
    exact col60 W' v A c vbx i j (Kd.C_below hV (hW.trans (hW'.mono hW.size))) (pw_cell_below hW' hm) ok hi)
  refine h.mono ?_
  rintro e w' ⟨b, rfl, hOut⟩
  exact ⟨_, rfl, hOut.owned hl (by omega), hOut.below⟩
theorem column_length (v : List Int) : (column v).length = v.length := GbFacts.matrix_length _ _ _
theorem column_row {v : List Int} {i : Nat} (h : i < v.length) : row (column v) i = [((vb v i : Nat) : Int)] := by unfold column; rw [row_matrix h]; rfl
/-- What it tells; none where an element is no byte. -/
def applyF (l : List (List Int)) (v : List Int) : Option (List Int × Int) :=
  if okB l = true ∧ okV v = true then
    (if rightB l = true ∧ v.length = (row l 0).length then some ((List.range l.length).map (fun i => ((mv v.length (byt l) (vb v) i : Nat) : Int)), 0) else some ([], 1))
  else none
set_option maxHeartbeats 1000000 in
theorem apply_calls (A0 : Option Addr) (c0 : Nat) (l0 : List (List Int)) (A1 : Option Addr) (c1 : Nat) (l1 : List Int) (r1 : List Int) (r2 : Int) (w : World) (hr0 : Kd.C (Kd.slice 5 (Kd.int .u8)) w A0 l0.length l0) (hr1 : Kd.C (Kd.int .u8) w A1 l1.length l1) (h : applyF l0 l1 = some (r1, r2)) :
    Calls Try.prog 34 #[.slice A0 l0.length c0, .slice A1 l1.length c1] w fun e w' => ∃ v0_ : Value, e = .returned (.tuple #[v0_, .int .i64 r2]) ∧ Kd.R (Kd.int .u8) 5 w' w.heap.size (fun _ => True) v0_ r1 ∧ Below w.heap.size w w' := by
  have hb1 := below1 w (.cells #[.slice A1 l1.length c1] 53)
  have hca : (w.alloc (.cells #[.slice A1 l1.length c1] 53)).cell? ⟨w.heap.size, 0, none⟩ = some (.slice A1 l1.length c1) := by
    rw [World.cell?_alloc_at _ _ _ _ rfl]; rfl
  unfold applyF at h
  by_cases ok : okB l0 = true ∧ okV l1 = true
  rotate_left
  · rw [if_neg ok] at h; cases h
  rw [if_pos ok] at h
  by_cases hm : rightB l0 = true
  rotate_left
  · rw [if_neg (fun h => hm h.1)] at h
    simp only [Option.some.injEq, Prod.mk.injEq] at h
    obtain ⟨rfl, rfl⟩ := h
    have HR := right_hid (c := c0) hr0 (show rightB l0 = false by simpa using hm)
    clear hm
    go_enter Try.func34, Try.ntmps34
    go_wp2
    refine start_ (n := 12) (S := fun w' => w'.cell? ⟨w.heap.size, 0, none⟩ = some (.slice A1 l1.length c1)) (ds := []) #[false, false, false, false, false, false, false, false, false, false, false, false] (by kernel_rfl) rfl rfl (hca) (fun hHeld => ?_)
    refine pure_ (i := 0) (N := some 9) (v := ?_) (a' := ?_) #[true, false, false, false, false, false, false, false, false, false, false, false] rfl rfl (by kernel_rfl) (fun _ _ _ h => h) (Or.inl ⟨by rfl, ?_⟩) ?_ ?_
    rotate_left
    · intro w'
      go_simp
      with_reducible rfl
    rotate_left
    · simp only [Act.put, List.setIfInBounds_toArray, List.set_cons_zero, List.set_cons_succ, i64_w, i32_w]
      rfl
    refine one_ (i := 1) (N := some 10) #[true, true, false, false, false, false, false, false, false, false, false, false] rfl rfl (by kernel_rfl) (by decide) (fun K hK => ?_)
    refine goes_ Try.func27 (by kernel_rfl) rfl #[.slice A0 l0.length c0] (by rfl) rfl rfl (by simp only [List.map_toArray, List.map_cons, List.map_nil]; rfl) ?_
    refine Calls.mono (HR.out _ hb1.drew) ?_
    rintro e w2 ⟨rfl, hb⟩
    refine ⟨_, rfl, ?_⟩
    refine hK.out _ _ ((hb.cell (p := ⟨w.heap.size, 0, none⟩) (by simp)).trans hca) (fun hHeld => ?_)
    clear hK K
    refine norm_ (a' := ?_) ?_ ?_
    rotate_left
    · show Act.put _ (some 10) _ = _
      simp only [Act.put, List.setIfInBounds_toArray, List.set_cons_zero, List.set_cons_succ, i64_w, i32_w]
      rfl
    refine pure_ (i := 2) (N := some 11) (v := ?_) (a' := ?_) #[true, true, true, false, false, false, false, false, false, false, false, false] rfl rfl (by kernel_rfl) (fun _ _ _ h => h) (Or.inl ⟨by rfl, ?_⟩) ?_ ?_
    rotate_left
    · intro w'
      go_simp
      with_reducible rfl
    rotate_left
    · simp only [Act.put, List.setIfInBounds_toArray, List.set_cons_zero, List.set_cons_succ, i64_w, i32_w]
      rfl
    refine pure_ (i := 3) (N := some 12) (v := ?_) (a' := ?_) #[true, true, true, true, false, false, false, false, false, false, false, false] rfl rfl (by kernel_rfl) (fun _ _ _ h => h) (Or.inl ⟨by rfl, ?_⟩) ?_ ?_
    rotate_left
    · intro w'
      go_simp
      with_reducible rfl
    rotate_left
    · simp only [Act.put, List.setIfInBounds_toArray, List.set_cons_zero, List.set_cons_succ, i64_w, i32_w]
      rfl
    refine pure_ (i := 4) (N := some 13) (v := undef) (a' := ?_) #[true, true, true, true, true, false, false, false, false, false, false, false] rfl rfl (by kernel_rfl) (fun _ _ _ h => h) (Or.inr ⟨by rfl, rfl⟩) ?_ ?_
    rotate_left
    · simp only [Act.put, List.setIfInBounds_toArray, List.set_cons_zero, List.set_cons_succ, i64_w, i32_w]
      rfl
    refine pure_ (i := 5) (N := some 14) (v := undef) (a' := ?_) #[true, true, true, true, true, true, false, false, false, false, false, false] rfl rfl (by kernel_rfl) (fun _ _ _ h => h) (Or.inr ⟨by rfl, rfl⟩) ?_ ?_
    rotate_left
    · simp only [Act.put, List.setIfInBounds_toArray, List.set_cons_zero, List.set_cons_succ, i64_w, i32_w]
      rfl
    refine pure_ (i := 6) (N := some 15) (v := undef) (a' := ?_) #[true, true, true, true, true, true, true, false, false, false, false, false] rfl rfl (by kernel_rfl) (fun _ _ _ h => h) (Or.inr ⟨by rfl, rfl⟩) ?_ ?_
    rotate_left
    · simp only [Act.put, List.setIfInBounds_toArray, List.set_cons_zero, List.set_cons_succ, i64_w, i32_w]
      rfl
    refine pure_ (i := 7) (N := some 16) (v := undef) (a' := ?_) #[true, true, true, true, true, true, true, true, false, false, false, false] rfl rfl (by kernel_rfl) (fun _ _ _ h => h) (Or.inr ⟨by rfl, rfl⟩) ?_ ?_
    rotate_left
    · simp only [Act.put, List.setIfInBounds_toArray, List.set_cons_zero, List.set_cons_succ, i64_w, i32_w]
      rfl
    refine pure_ (i := 8) (N := some 17) (v := undef) (a' := ?_) #[true, true, true, true, true, true, true, true, true, false, false, false] rfl rfl (by kernel_rfl) (fun _ _ _ h => h) (Or.inr ⟨by rfl, rfl⟩) ?_ ?_
    rotate_left
    · simp only [Act.put, List.setIfInBounds_toArray, List.set_cons_zero, List.set_cons_succ, i64_w, i32_w]
      rfl
    refine pure_ (i := 9) (N := some 18) (v := undef) (a' := ?_) #[true, true, true, true, true, true, true, true, true, true, false, false] rfl rfl (by kernel_rfl) (fun _ _ _ h => h) (Or.inr ⟨by rfl, rfl⟩) ?_ ?_
    rotate_left
    · simp only [Act.put, List.setIfInBounds_toArray, List.set_cons_zero, List.set_cons_succ, i64_w, i32_w]
      rfl
    refine pure_ (i := 10) (N := some 19) (v := undef) (a' := ?_) #[true, true, true, true, true, true, true, true, true, true, true, false] rfl rfl (by kernel_rfl) (fun _ _ _ h => h) (Or.inr ⟨by rfl, rfl⟩) ?_ ?_
    rotate_left
    · simp only [Act.put, List.setIfInBounds_toArray, List.set_cons_zero, List.set_cons_succ, i64_w, i32_w]
      rfl
    refine pure_ (i := 11) (N := some 20) (v := ?_) (a' := ?_) #[true, true, true, true, true, true, true, true, true, true, true, true] rfl rfl (by kernel_rfl) (fun _ _ _ h => h) (Or.inl ⟨by rfl, ?_⟩) ?_ ?_
    rotate_left
    · intro w'
      go_simp
      with_reducible rfl
    rotate_left
    · simp only [Act.put, List.setIfInBounds_toArray, List.set_cons_zero, List.set_cons_succ, i64_w, i32_w]
      rfl
    refine done_ (by kernel_rfl) ?_
    go_wp2
    go_ret2
    exact ⟨_, rfl, Kd.R_nil _ _ _ _ _, hb1.drew.trans (hb.mono (by simp))⟩
  have HR := right_hid (c := c0) hr0 hm
  have hlm : 0 < l0.length := by simp [rightB] at hm; omega
  obtain ⟨adm, A2, c2, rfl, hcell, hle, hI⟩ := rows_at hr0 hlm
  rw [Addr.add_zero'] at hcell
  have hltm := World.block_lt_of_cell? w _ hcell
  have hcell2 := pw_cell_below hb1 hcell
  have q : (0 : Int) < (l0.length : Int) := by omega
  by_cases hne : l1.length = (row l0 0).length
  rotate_left
  · rw [if_neg (fun h => hne h.2)] at h
    simp only [Option.some.injEq, Prod.mk.injEq] at h
    obtain ⟨rfl, rfl⟩ := h
    have e2 : ((l1.length : Int) != ((row l0 0).length : Int)) = true := by simp; omega
    clear hm hne
    generalize row l0 0 = r at *
    go_enter Try.func34, Try.ntmps34
    go_wp2
    refine start_ (n := 12) (S := fun w' => w'.cell? ⟨w.heap.size, 0, none⟩ = some (.slice A1 l1.length c1) ∧ w'.cell? adm = some (.slice A2 r.length c2)) (ds := []) #[false, false, false, false, false, false, false, false, false, false, false, false] (by kernel_rfl) rfl rfl ⟨hca, hcell2⟩ (fun hHeld => ?_)
    refine pure_ (i := 0) (N := some 9) (v := ?_) (a' := ?_) #[true, false, false, false, false, false, false, false, false, false, false, false] rfl rfl (by kernel_rfl) (fun _ _ _ h => h) (Or.inl ⟨by rfl, ?_⟩) ?_ ?_
    rotate_left
    · intro w'
      go_simp
      with_reducible rfl
    rotate_left
    · simp only [Act.put, List.setIfInBounds_toArray, List.set_cons_zero, List.set_cons_succ, i64_w, i32_w]
      rfl
    refine one_ (i := 1) (N := some 10) #[true, true, false, false, false, false, false, false, false, false, false, false] rfl rfl (by kernel_rfl) (by decide) (fun K hK => ?_)
    refine goes_ Try.func27 (by kernel_rfl) rfl #[.slice (some adm) l0.length c0] (by rfl) rfl rfl (by simp only [List.map_toArray, List.map_cons, List.map_nil]; rfl) ?_
    refine Calls.mono (HR.out _ hb1.drew) ?_
    rintro e w2 ⟨rfl, hb⟩
    refine ⟨_, rfl, ?_⟩
    refine hK.out _ _ ⟨(hb.cell (p := ⟨w.heap.size, 0, none⟩) (by simp)).trans hca, (hb.cell (p := adm) (by simp; omega)).trans hcell2⟩ (fun hHeld => ?_)
    clear hK K
    refine norm_ (a' := ?_) ?_ ?_
    rotate_left
    · show Act.put _ (some 10) _ = _
      simp only [Act.put, List.setIfInBounds_toArray, List.set_cons_zero, List.set_cons_succ, i64_w, i32_w]
      rfl
    refine pure_ (i := 2) (N := some 11) (v := ?_) (a' := ?_) #[true, true, true, false, false, false, false, false, false, false, false, false] rfl rfl (by kernel_rfl) (fun _ _ _ h => h) (Or.inl ⟨by rfl, ?_⟩) ?_ ?_
    rotate_left
    · intro w'
      go_simp
      with_reducible rfl
    rotate_left
    · simp only [Act.put, List.setIfInBounds_toArray, List.set_cons_zero, List.set_cons_succ, i64_w, i32_w]
      rfl
    refine pure_ (i := 3) (N := some 12) (v := ?_) (a' := ?_) #[true, true, true, true, false, false, false, false, false, false, false, false] rfl rfl (by kernel_rfl) (fun _ _ _ h => h) (Or.inl ⟨by rfl, ?_⟩) ?_ ?_
    rotate_left
    · intro w'
      go_simp
      with_reducible rfl
    rotate_left
    · simp only [Act.put, List.setIfInBounds_toArray, List.set_cons_zero, List.set_cons_succ, i64_w, i32_w]
      rfl
    refine pure_ (i := 6) (N := some 15) (v := ?_) (a' := ?_) #[true, true, true, true, false, false, true, false, false, false, false, false] rfl rfl (by kernel_rfl) (fun _ _ _ h => h) (Or.inl ⟨by rfl, ?_⟩) ?_ ?_
    rotate_left
    · intro w'
      go_simp
      with_reducible rfl
    rotate_left
    · simp only [Act.put, List.setIfInBounds_toArray, List.set_cons_zero, List.set_cons_succ, i64_w, i32_w]
      rfl
    refine pure_ (i := 7) (N := some 16) (v := ?_) (a' := ?_) #[true, true, true, true, false, false, true, true, false, false, false, false] rfl rfl (by kernel_rfl) (fun _ _ _ h => h) (Or.inl ⟨by rfl, ?_⟩) ?_ ?_
    rotate_left
    · intro w'
      go_simp
      with_reducible rfl
    rotate_left
    · simp only [Act.put, List.setIfInBounds_toArray, List.set_cons_zero, List.set_cons_succ, i64_w, i32_w]
      rfl
    refine take_ (i := 4) (N := some 13) (v := ?_) (a' := ?_) #[true, true, true, true, true, false, true, true, false, false, false, false] rfl rfl (by kernel_rfl) (fun _ _ _ h => h) (Or.inl ⟨by rfl, ?_⟩) hHeld ?_ ?_
    rotate_left
    · rintro w' ⟨s0, s1⟩
      go_simp
      with_reducible rfl
    rotate_left
    · simp only [Act.put, List.setIfInBounds_toArray, List.set_cons_zero, List.set_cons_succ, i64_w, i32_w]
      rfl
    refine pure_ (i := 5) (N := some 14) (v := ?_) (a' := ?_) #[true, true, true, true, true, true, true, true, false, false, false, false] rfl rfl (by kernel_rfl) (fun _ _ _ h => h) (Or.inl ⟨by rfl, ?_⟩) ?_ ?_
    rotate_left
    · intro w'
      go_simp
      with_reducible rfl
    rotate_left
    · simp only [Act.put, List.setIfInBounds_toArray, List.set_cons_zero, List.set_cons_succ, i64_w, i32_w]
      rfl
    refine take_ (i := 8) (N := some 17) (v := ?_) (a' := ?_) #[true, true, true, true, true, true, true, true, true, false, false, false] rfl rfl (by kernel_rfl) (fun _ _ _ h => h) (Or.inl ⟨by rfl, ?_⟩) hHeld ?_ ?_
    rotate_left
    · rintro w' ⟨s0, s1⟩
      go_simp
      with_reducible rfl
    rotate_left
    · simp only [Act.put, List.setIfInBounds_toArray, List.set_cons_zero, List.set_cons_succ, i64_w, i32_w]
      rfl
    refine pure_ (i := 9) (N := some 18) (v := ?_) (a' := ?_) #[true, true, true, true, true, true, true, true, true, true, false, false] rfl rfl (by kernel_rfl) (fun _ _ _ h => h) (Or.inl ⟨by rfl, ?_⟩) ?_ ?_
    rotate_left
    · intro w'
      go_simp
      with_reducible rfl
    rotate_left
    · simp only [Act.put, List.setIfInBounds_toArray, List.set_cons_zero, List.set_cons_succ, i64_w, i32_w]
      rfl
    refine pure_ (i := 10) (N := some 19) (v := ?_) (a' := ?_) #[true, true, true, true, true, true, true, true, true, true, true, false] rfl rfl (by kernel_rfl) (fun _ _ _ h => h) (Or.inl ⟨by rfl, ?_⟩) ?_ ?_
    rotate_left
    · intro w'
      go_simp
      with_reducible rfl
    rotate_left
    · simp only [Act.put, List.setIfInBounds_toArray, List.set_cons_zero, List.set_cons_succ, i64_w, i32_w]
      rfl
    refine pure_ (i := 11) (N := some 20) (v := ?_) (a' := ?_) #[true, true, true, true, true, true, true, true, true, true, true, true] rfl rfl (by kernel_rfl) (fun _ _ _ h => h) (Or.inl ⟨by rfl, ?_⟩) ?_ ?_
    rotate_left
    · intro w'
      go_simp
      with_reducible rfl
    rotate_left
    · simp only [Act.put, List.setIfInBounds_toArray, List.set_cons_zero, List.set_cons_succ, i64_w, i32_w]
      rfl
    refine done_ (by kernel_rfl) ?_
    go_wp2
    go_ret2
    exact ⟨_, rfl, Kd.R_nil _ _ _ _ _, hb1.drew.trans (hb.mono (by simp))⟩
  rw [if_pos ⟨hm, hne⟩] at h
  simp only [Option.some.injEq, Prod.mk.injEq] at h
  obtain ⟨rfl, rfl⟩ := h
  have hl0 : l0.length ≤ 255 := by simp [rightB] at hm; omega
  have hl1 : 1 ≤ l1.length ∧ l1.length ≤ 255 := by simp [rightB] at hm; omega
  have hMade : ∀ W, Below w.heap.size w W → W.cell? ⟨w.heap.size, 0, none⟩ = some (.slice A1 l1.length c1) → Calls Try.prog 39 #[.int .i64 l1.length, .int .i64 1, .func (.func 60) #[] #[.pointer (some ⟨w.heap.size, 0, none⟩)]] W
      fun e w' => ∃ v0_ : Value, e = .returned v0_ ∧ Kd.S KR 53 w' W.heap.size (fun _ => True) v0_ (column l1) ∧ Below W.heap.size W w' := fun W hW hc => col_made w W l1 A1 c1 _ hW hr1 hc ok.2 hl1.2
  have okc : okB (column l1) = true := okB_matrix fun i j _ _ => (okV_at ok.2 i).1
  have rtc : rightB (column l1) = true := rightB_matrix hl1.1 hl1.2 (by omega) (by omega)
  have hrc : (row (column l1) 0).length = 1 := by rw [column_row (by omega)]; rfl
  have hTimes : ∀ (W : World) (Ao : Option Addr) (co : Nat), Below w.heap.size w W → KR.C W Ao (column l1).length (column l1) → Calls Try.prog 31 #[.slice (some adm) l0.length c0, .slice Ao (column l1).length co] W fun e w' => ∃ v0_ : Value, e = .returned (.tuple #[v0_, .int .i64 0]) ∧ Kd.S KR 53 w' W.heap.size (fun _ => True) v0_ (matrix l0.length 1 (fun i j => ((prod l0 (column l1) i j : Nat) : Int))) ∧ Below W.heap.size W w' := fun W Ao co hW hO => by
    have := times31_ok W l0 (column l1) (some adm) Ao c0 co (Kd.C_below hr0 hW) hO ok.1 okc hm rtc (by rw [column_length]; omega)
    rwa [hrc] at this
  have hlen : (matrix l0.length 1 (fun i j => ((prod l0 (column l1) i j : Nat) : Int))).length = l0.length := GbFacts.matrix_length _ _ _
  have hrow : ∀ i, i < l0.length → (row (matrix l0.length 1 (fun i j => ((prod l0 (column l1) i j : Nat) : Int))) i).length = 1 := fun i hi => by rw [row_matrix hi]; simp
  have hfirst : firsts (matrix l0.length 1 (fun i j => ((prod l0 (column l1) i j : Nat) : Int))) l0.length = (List.range l0.length).map (fun i => ((mv l1.length (byt l0) (vb l1) i : Nat) : Int)) := by
    unfold firsts
    apply List.map_congr_left
    intro i hi
    have hi2 : i < l0.length := by simpa using hi
    rw [row_matrix hi2]
    show ((prod l0 (column l1) i 0 : Nat) : Int) = _
    congr 1
    unfold prod mv
    rw [column_length]
    exact sx_congr fun k hk => by
      congr 1
      unfold column
      rw [byt_matrix hk (by omega)]
  have hCat : ∀ (W : World) (Ao : Option Addr) (co : Nat), KR.C W Ao l0.length (matrix l0.length 1 (fun i j => ((prod l0 (column l1) i j : Nat) : Int))) → Calls Try.prog 61 #[.slice Ao l0.length co] W fun e w' => ∃ v0_ : Value, e = .returned v0_ ∧ Kd.R (Kd.int .u8) 5 w' W.heap.size (fun _ => True) v0_ ((List.range l0.length).map (fun i => ((mv l1.length (byt l0) (vb l1) i : Nat) : Int))) ∧ Below W.heap.size W w' := fun W Ao co hC => by
    have := concat61 W _ Ao co l0.length hC hlen (by omega) hl0 hrow
    rwa [hfirst] at this
  have HM : Hid _ := hMade
  have HT : Hid _ := hTimes
  have HC : Hid _ := hCat
  have e2 : ((l1.length : Int) != ((row l0 0).length : Int)) = false := by simp; omega
  have hmf : ∀ (fn : Fn) (first cap : Array Value) (w : World), (Instr.makeFunc fn first cap).run Try.prog w = .ok (.func fn first cap) w := fun _ _ _ _ => rfl
  have HL : Hid ((column l1).length = l1.length) := column_length l1
  have HML : Hid ((matrix l0.length 1 (fun i j => ((prod l0 (column l1) i j : Nat) : Int))).length = l0.length) := hlen
  clear hMade hTimes hCat hfirst hrow hlen hm hne hrc rtc okc ok
  generalize (List.range l0.length).map (fun i => ((mv l1.length (byt l0) (vb l1) i : Nat) : Int)) = res at *
  generalize hmat : matrix l0.length 1 (fun i j => ((prod l0 (column l1) i j : Nat) : Int)) = mat at *
  generalize column l1 = col at *
  generalize row l0 0 = r at *
  clear hmat
  go_enter Try.func34, Try.ntmps34
  go_wp2
  refine start_ (n := 12) (S := fun w' => w'.cell? ⟨w.heap.size, 0, none⟩ = some (.slice A1 l1.length c1) ∧ w'.cell? adm = some (.slice A2 r.length c2)) (ds := []) #[false, false, false, false, false, false, false, false, false, false, false, false] (by kernel_rfl) rfl rfl ⟨hca, hcell2⟩ (fun hHeld => ?_)
  refine pure_ (i := 0) (N := some 9) (v := ?_) (a' := ?_) #[true, false, false, false, false, false, false, false, false, false, false, false] rfl rfl (by kernel_rfl) (fun _ _ _ h => h) (Or.inl ⟨by rfl, ?_⟩) ?_ ?_
  rotate_left
  · intro w'
    go_simp
    with_reducible rfl
  rotate_left
  · simp only [Act.put, List.setIfInBounds_toArray, List.set_cons_zero, List.set_cons_succ, i64_w, i32_w]
    rfl
  refine one_ (i := 1) (N := some 10) #[true, true, false, false, false, false, false, false, false, false, false, false] rfl rfl (by kernel_rfl) (by decide) (fun K hK => ?_)
  refine goes_ Try.func27 (by kernel_rfl) rfl #[.slice (some adm) l0.length c0] (by rfl) rfl rfl (by simp only [List.map_toArray, List.map_cons, List.map_nil]; rfl) ?_
  refine Calls.mono (HR.out _ hb1.drew) ?_
  rintro e w2 ⟨rfl, hb⟩
  refine ⟨_, rfl, ?_⟩
  refine hK.out _ _ ⟨(hb.cell (p := ⟨w.heap.size, 0, none⟩) (by simp)).trans hca, (hb.cell (p := adm) (by simp; omega)).trans hcell2⟩ (fun hHeld => ?_)
  clear hK K
  refine norm_ (a' := ?_) ?_ ?_
  rotate_left
  · show Act.put _ (some 10) _ = _
    simp only [Act.put, List.setIfInBounds_toArray, List.set_cons_zero, List.set_cons_succ, i64_w, i32_w]
    rfl
  refine pure_ (i := 2) (N := some 11) (v := ?_) (a' := ?_) #[true, true, true, false, false, false, false, false, false, false, false, false] rfl rfl (by kernel_rfl) (fun _ _ _ h => h) (Or.inl ⟨by rfl, ?_⟩) ?_ ?_
  rotate_left
  · intro w'
    go_simp
    with_reducible rfl
  rotate_left
  · simp only [Act.put, List.setIfInBounds_toArray, List.set_cons_zero, List.set_cons_succ, i64_w, i32_w]
    rfl
  refine pure_ (i := 3) (N := some 12) (v := ?_) (a' := ?_) #[true, true, true, true, false, false, false, false, false, false, false, false] rfl rfl (by kernel_rfl) (fun _ _ _ h => h) (Or.inl ⟨by rfl, ?_⟩) ?_ ?_
  rotate_left
  · intro w'
    go_simp
    with_reducible rfl
  rotate_left
  · simp only [Act.put, List.setIfInBounds_toArray, List.set_cons_zero, List.set_cons_succ, i64_w, i32_w]
    rfl
  refine pure_ (i := 6) (N := some 15) (v := ?_) (a' := ?_) #[true, true, true, true, false, false, true, false, false, false, false, false] rfl rfl (by kernel_rfl) (fun _ _ _ h => h) (Or.inl ⟨by rfl, ?_⟩) ?_ ?_
  rotate_left
  · intro w'
    go_simp
    with_reducible rfl
  rotate_left
  · simp only [Act.put, List.setIfInBounds_toArray, List.set_cons_zero, List.set_cons_succ, i64_w, i32_w]
    rfl
  refine pure_ (i := 7) (N := some 16) (v := ?_) (a' := ?_) #[true, true, true, true, false, false, true, true, false, false, false, false] rfl rfl (by kernel_rfl) (fun _ _ _ h => h) (Or.inl ⟨by rfl, ?_⟩) ?_ ?_
  rotate_left
  · intro w'
    go_simp
    with_reducible rfl
  rotate_left
  · simp only [Act.put, List.setIfInBounds_toArray, List.set_cons_zero, List.set_cons_succ, i64_w, i32_w]
    rfl
  refine take_ (i := 4) (N := some 13) (v := ?_) (a' := ?_) #[true, true, true, true, true, false, true, true, false, false, false, false] rfl rfl (by kernel_rfl) (fun _ _ _ h => h) (Or.inl ⟨by rfl, ?_⟩) hHeld ?_ ?_
  rotate_left
  · rintro w' ⟨s0, s1⟩
    go_simp
    with_reducible rfl
  rotate_left
  · simp only [Act.put, List.setIfInBounds_toArray, List.set_cons_zero, List.set_cons_succ, i64_w, i32_w]
    rfl
  refine pure_ (i := 5) (N := some 14) (v := ?_) (a' := ?_) #[true, true, true, true, true, true, true, true, false, false, false, false] rfl rfl (by kernel_rfl) (fun _ _ _ h => h) (Or.inl ⟨by rfl, ?_⟩) ?_ ?_
  rotate_left
  · intro w'
    go_simp
    with_reducible rfl
  rotate_left
  · simp only [Act.put, List.setIfInBounds_toArray, List.set_cons_zero, List.set_cons_succ, i64_w, i32_w]
    rfl
  refine take_ (i := 8) (N := some 17) (v := ?_) (a' := ?_) #[true, true, true, true, true, true, true, true, true, false, false, false] rfl rfl (by kernel_rfl) (fun _ _ _ h => h) (Or.inl ⟨by rfl, ?_⟩) hHeld ?_ ?_
  rotate_left
  · rintro w' ⟨s0, s1⟩
    go_simp
    with_reducible rfl
  rotate_left
  · simp only [Act.put, List.setIfInBounds_toArray, List.set_cons_zero, List.set_cons_succ, i64_w, i32_w]
    rfl
  refine pure_ (i := 9) (N := some 18) (v := ?_) (a' := ?_) #[true, true, true, true, true, true, true, true, true, true, false, false] rfl rfl (by kernel_rfl) (fun _ _ _ h => h) (Or.inl ⟨by rfl, ?_⟩) ?_ ?_
  rotate_left
  · intro w'
    go_simp
    with_reducible rfl
  rotate_left
  · simp only [Act.put, List.setIfInBounds_toArray, List.set_cons_zero, List.set_cons_succ, i64_w, i32_w]
    rfl
  refine pure_ (i := 10) (N := some 19) (v := ?_) (a' := ?_) #[true, true, true, true, true, true, true, true, true, true, true, false] rfl rfl (by kernel_rfl) (fun _ _ _ h => h) (Or.inl ⟨by rfl, ?_⟩) ?_ ?_
  rotate_left
  · intro w'
    go_simp
    with_reducible rfl
  rotate_left
  · simp only [Act.put, List.setIfInBounds_toArray, List.set_cons_zero, List.set_cons_succ, i64_w, i32_w]
    rfl
  refine pure_ (i := 11) (N := some 20) (v := ?_) (a' := ?_) #[true, true, true, true, true, true, true, true, true, true, true, true] rfl rfl (by kernel_rfl) (fun _ _ _ h => h) (Or.inl ⟨by rfl, ?_⟩) ?_ ?_
  rotate_left
  · intro w'
    go_simp
    with_reducible rfl
  rotate_left
  · simp only [Act.put, List.setIfInBounds_toArray, List.set_cons_zero, List.set_cons_succ, i64_w, i32_w]
    rfl
  refine done_ (by kernel_rfl) ?_
  have hB2 := hb1.drew.trans (hb.mono (by simp))
  have hA2 : w2.cell? ⟨w.heap.size, 0, none⟩ = some (.slice A1 l1.length c1) := (hb.cell (p := ⟨w.heap.size, 0, none⟩) (by simp)).trans hca
  clear hca hcell2
  go_wp2_with (first | (go_at_call 39; refine Calls.mono (HM.out _ hB2 hA2) ?_; rintro e w4 ⟨v4, rfl, hS4, hb4⟩; obtain ⟨Ao, co, rfl, hle4, hO4⟩ := Kd.S_reads hS4; have hB4 := hB2.trans (hb4.mono hB2.size)) | (go_at_call 31; refine Calls.mono (HT.out _ Ao co hB4 hO4) ?_; rintro e w5 ⟨v5, rfl, hS5, hb5⟩; obtain ⟨Ap, cp, rfl, hle5, hO5⟩ := Kd.S_reads hS5; rw [HML.out] at hO5 hle5 hS5 ⊢) | (go_at_call 61; refine Calls.mono (HC.out _ Ap cp hO5) ?_; rintro e w6 ⟨v6, rfl, hR6, hb6⟩))
  go_ret2
  have hB5 := hB4.trans (hb5.mono hB4.size)
  exact ⟨_, rfl, Kd.R_lower hR6 hB5.size, hB5.trans (hb6.mono hB5.size)⟩
end Go.Proofs.Ytgoacbbaiigpeaa.Gf
