/- Several texts of this session laid together: GfInv, GfInv2, GfInv3. -/
import Derived.Test.YtjolnjckgoilpaaMSt
import Derived.Test.YtjolnjckgoilpaaGaFacts
section
/-
  The walk of gf.Matrix.Inverse.
-/
set_option linter.unusedVariables false
set_option linter.unusedSimpArgs false
namespace Go.Proofs.Ytjolnjckgoilpaa.Gf
open Go.RowKit Go.Proofs.YtjolnjckgoilpaaW.PrintWords Go.Proofs.YtjolnjckgoilpaaW.PrintLast Go.Proofs.Ytjolnjckgoilpaa.PRa

set_option maxHeartbeats 2000000 in
theorem inv30_no1 (w : World) (lm : List (List Int)) (Am : Option Addr) (cm : Nat) (hM : KR.C w Am lm.length lm) (hm : rightB lm = false) :
    Calls Try.prog 30 #[.slice Am lm.length cm] w fun e w' => e = .returned (.tuple #[.slice none 0 0, .int .i64 1]) ∧ Below w.heap.size w w' := by
  have hb1 := below1 w (.cells #[.slice Am lm.length cm] 46)
  have hca : (w.alloc (.cells #[.slice Am lm.length cm] 46)).cell? ⟨w.heap.size, 0, none⟩ = some (.slice Am lm.length cm) := by
    rw [World.cell?_alloc_at _ _ _ _ rfl]; rfl
  have HR := right_hid (c := cm) hM hm
  clear hm
  go_enter Try.func30, Try.ntmps30
  go_wp2
  refine start_ (n := 12) (S := fun w' => w'.cell? ⟨w.heap.size, 0, none⟩ = some (.slice Am lm.length cm)) (ds := []) #[false, false, false, false, false, false, false, false, false, false, false, false] (by kernel_rfl) rfl rfl (hca) (fun hHeld => ?_)
  refine take_ (i := 0) (N := some 15) (v := ?_) (a' := ?_) #[true, false, false, false, false, false, false, false, false, false, false, false] rfl rfl (by kernel_rfl) (fun _ _ _ h => h) (Or.inl ⟨by rfl, ?_⟩) hHeld ?_ ?_
  rotate_left
  · intro w' s0
    go_simp
    with_reducible rfl
  rotate_left
  · simp only [Act.put, List.setIfInBounds_toArray, List.set_cons_zero, List.set_cons_succ, i64_w, i32_w]
    rfl
  refine one_ (i := 1) (N := some 16) #[true, true, false, false, false, false, false, false, false, false, false, false] rfl rfl (by kernel_rfl) (by decide) (fun K hK => ?_)
  refine goes_ Try.func46 (by kernel_rfl) rfl #[.slice Am lm.length cm] (by rfl) rfl rfl (by simp only [List.map_toArray, List.map_cons, List.map_nil]; rfl) ?_
  refine Calls.mono (HR.out _ hb1.drew) ?_
  rintro e w2 ⟨rfl, hb⟩
  refine ⟨_, rfl, ?_⟩
  refine hK.out _ _ ((hb.cell (p := ⟨w.heap.size, 0, none⟩) (by simp)).trans hca) (fun hHeld => ?_)
  clear hK K
  refine norm_ (a' := ?_) ?_ ?_
  rotate_left
  · show Act.put _ (some 16) _ = _
    simp only [Act.put, List.setIfInBounds_toArray, List.set_cons_zero, List.set_cons_succ, i64_w, i32_w]
    rfl
  refine pure_ (i := 2) (N := some 17) (v := ?_) (a' := ?_) #[true, true, true, false, false, false, false, false, false, false, false, false] rfl rfl (by kernel_rfl) (fun _ _ _ h => h) (Or.inl ⟨by rfl, ?_⟩) ?_ ?_
  rotate_left
  · intro w'
    go_simp
    with_reducible rfl
  rotate_left
  · simp only [Act.put, List.setIfInBounds_toArray, List.set_cons_zero, List.set_cons_succ, i64_w, i32_w]
    rfl
  refine pure_ (i := 3) (N := some 18) (v := ?_) (a' := ?_) #[true, true, true, true, false, false, false, false, false, false, false, false] rfl rfl (by kernel_rfl) (fun _ _ _ h => h) (Or.inl ⟨by rfl, ?_⟩) ?_ ?_
  rotate_left
  · intro w'
    go_simp
    with_reducible rfl
  rotate_left
  · simp only [Act.put, List.setIfInBounds_toArray, List.set_cons_zero, List.set_cons_succ, i64_w, i32_w]
    rfl
  refine pure_ (i := 4) (N := some 19) (v := undef) (a' := ?_) #[true, true, true, true, true, false, false, false, false, false, false, false] rfl rfl (by kernel_rfl) (fun _ _ _ h => h) (Or.inr ⟨by rfl, rfl⟩) ?_ ?_
  rotate_left
  · simp only [Act.put, List.setIfInBounds_toArray, List.set_cons_zero, List.set_cons_succ, i64_w, i32_w]
    rfl
  refine pure_ (i := 5) (N := some 20) (v := undef) (a' := ?_) #[true, true, true, true, true, true, false, false, false, false, false, false] rfl rfl (by kernel_rfl) (fun _ _ _ h => h) (Or.inr ⟨by rfl, rfl⟩) ?_ ?_
  rotate_left
  · simp only [Act.put, List.setIfInBounds_toArray, List.set_cons_zero, List.set_cons_succ, i64_w, i32_w]
    rfl
  refine pure_ (i := 6) (N := some 21) (v := undef) (a' := ?_) #[true, true, true, true, true, true, true, false, false, false, false, false] rfl rfl (by kernel_rfl) (fun _ _ _ h => h) (Or.inr ⟨by rfl, rfl⟩) ?_ ?_
  rotate_left
  · simp only [Act.put, List.setIfInBounds_toArray, List.set_cons_zero, List.set_cons_succ, i64_w, i32_w]
    rfl
  refine pure_ (i := 7) (N := some 22) (v := undef) (a' := ?_) #[true, true, true, true, true, true, true, true, false, false, false, false] rfl rfl (by kernel_rfl) (fun _ _ _ h => h) (Or.inr ⟨by rfl, rfl⟩) ?_ ?_
  rotate_left
  · simp only [Act.put, List.setIfInBounds_toArray, List.set_cons_zero, List.set_cons_succ, i64_w, i32_w]
    rfl
  refine pure_ (i := 8) (N := some 23) (v := undef) (a' := ?_) #[true, true, true, true, true, true, true, true, true, false, false, false] rfl rfl (by kernel_rfl) (fun _ _ _ h => h) (Or.inr ⟨by rfl, rfl⟩) ?_ ?_
  rotate_left
  · simp only [Act.put, List.setIfInBounds_toArray, List.set_cons_zero, List.set_cons_succ, i64_w, i32_w]
    rfl
  refine pure_ (i := 9) (N := some 24) (v := undef) (a' := ?_) #[true, true, true, true, true, true, true, true, true, true, false, false] rfl rfl (by kernel_rfl) (fun _ _ _ h => h) (Or.inr ⟨by rfl, rfl⟩) ?_ ?_
  rotate_left
  · simp only [Act.put, List.setIfInBounds_toArray, List.set_cons_zero, List.set_cons_succ, i64_w, i32_w]
    rfl
  refine pure_ (i := 10) (N := some 25) (v := undef) (a' := ?_) #[true, true, true, true, true, true, true, true, true, true, true, false] rfl rfl (by kernel_rfl) (fun _ _ _ h => h) (Or.inr ⟨by rfl, rfl⟩) ?_ ?_
  rotate_left
  · simp only [Act.put, List.setIfInBounds_toArray, List.set_cons_zero, List.set_cons_succ, i64_w, i32_w]
    rfl
  refine pure_ (i := 11) (N := some 26) (v := ?_) (a' := ?_) #[true, true, true, true, true, true, true, true, true, true, true, true] rfl rfl (by kernel_rfl) (fun _ _ _ h => h) (Or.inl ⟨by rfl, ?_⟩) ?_ ?_
  rotate_left
  · intro w'
    go_simp
    with_reducible rfl
  rotate_left
  · simp only [Act.put, List.setIfInBounds_toArray, List.set_cons_zero, List.set_cons_succ, i64_w, i32_w]
    rfl
  refine done_ (by kernel_rfl) ?_
  go_wp2
  go_ret2
  exact ⟨rfl, hb1.drew.trans (hb.mono (by simp))⟩
set_option maxHeartbeats 2000000 in
theorem inv30_no2 (w : World) (lm : List (List Int)) (Am : Option Addr) (cm : Nat) (hM : KR.C w Am lm.length lm) (hm : rightB lm = true) (hne : lm.length ≠ (row lm 0).length) :
    Calls Try.prog 30 #[.slice Am lm.length cm] w fun e w' => e = .returned (.tuple #[.slice none 0 0, .int .i64 1]) ∧ Below w.heap.size w w' := by
  have hb1 := below1 w (.cells #[.slice Am lm.length cm] 46)
  have hca : (w.alloc (.cells #[.slice Am lm.length cm] 46)).cell? ⟨w.heap.size, 0, none⟩ = some (.slice Am lm.length cm) := by
    rw [World.cell?_alloc_at _ _ _ _ rfl]; rfl
  have HR := right_hid (c := cm) hM hm
  have hlm : 0 < lm.length := by simp [rightB] at hm; omega
  obtain ⟨adm, A2, c2, rfl, hcell, hle, hI⟩ := rows_at hM hlm
  rw [Addr.add_zero'] at hcell
  have hltm := World.block_lt_of_cell? w _ hcell
  have hcell2 := pw_cell_below hb1 hcell
  clear hm
  have e2 : ((lm.length : Int) != ((row lm 0).length : Int)) = true := by simp; omega
  have q : (0 : Int) < (lm.length : Int) := by omega
  clear hne
  generalize row lm 0 = r at *
  go_enter Try.func30, Try.ntmps30
  go_wp2
  refine start_ (n := 12) (S := fun w' => w'.cell? ⟨w.heap.size, 0, none⟩ = some (.slice (some adm) lm.length cm) ∧ w'.cell? adm = some (.slice A2 r.length c2)) (ds := []) #[false, false, false, false, false, false, false, false, false, false, false, false] (by kernel_rfl) rfl rfl ⟨hca, hcell2⟩ (fun hHeld => ?_)
  refine take_ (i := 0) (N := some 15) (v := ?_) (a' := ?_) #[true, false, false, false, false, false, false, false, false, false, false, false] rfl rfl (by kernel_rfl) (fun _ _ _ h => h) (Or.inl ⟨by rfl, ?_⟩) hHeld ?_ ?_
  rotate_left
  · rintro w' ⟨s0, s1⟩
    go_simp
    with_reducible rfl
  rotate_left
  · simp only [Act.put, List.setIfInBounds_toArray, List.set_cons_zero, List.set_cons_succ, i64_w, i32_w]
    rfl
  refine one_ (i := 1) (N := some 16) #[true, true, false, false, false, false, false, false, false, false, false, false] rfl rfl (by kernel_rfl) (by decide) (fun K hK => ?_)
  refine goes_ Try.func46 (by kernel_rfl) rfl #[.slice (some adm) lm.length cm] (by rfl) rfl rfl (by simp only [List.map_toArray, List.map_cons, List.map_nil]; rfl) ?_
  refine Calls.mono (HR.out _ hb1.drew) ?_
  rintro e w2 ⟨rfl, hb⟩
  refine ⟨_, rfl, ?_⟩
  refine hK.out _ _ ⟨(hb.cell (p := ⟨w.heap.size, 0, none⟩) (by simp)).trans hca, (hb.cell (p := adm) (by simp; omega)).trans hcell2⟩ (fun hHeld => ?_)
  clear hK K
  refine norm_ (a' := ?_) ?_ ?_
  rotate_left
  · show Act.put _ (some 16) _ = _
    simp only [Act.put, List.setIfInBounds_toArray, List.set_cons_zero, List.set_cons_succ, i64_w, i32_w]
    rfl
  refine pure_ (i := 2) (N := some 17) (v := ?_) (a' := ?_) #[true, true, true, false, false, false, false, false, false, false, false, false] rfl rfl (by kernel_rfl) (fun _ _ _ h => h) (Or.inl ⟨by rfl, ?_⟩) ?_ ?_
  rotate_left
  · intro w'
    go_simp
    with_reducible rfl
  rotate_left
  · simp only [Act.put, List.setIfInBounds_toArray, List.set_cons_zero, List.set_cons_succ, i64_w, i32_w]
    rfl
  refine pure_ (i := 3) (N := some 18) (v := ?_) (a' := ?_) #[true, true, true, true, false, false, false, false, false, false, false, false] rfl rfl (by kernel_rfl) (fun _ _ _ h => h) (Or.inl ⟨by rfl, ?_⟩) ?_ ?_
  rotate_left
  · intro w'
    go_simp
    with_reducible rfl
  rotate_left
  · simp only [Act.put, List.setIfInBounds_toArray, List.set_cons_zero, List.set_cons_succ, i64_w, i32_w]
    rfl
  refine take_ (i := 4) (N := some 19) (v := ?_) (a' := ?_) #[true, true, true, true, true, false, false, false, false, false, false, false] rfl rfl (by kernel_rfl) (fun _ _ _ h => h) (Or.inl ⟨by rfl, ?_⟩) hHeld ?_ ?_
  rotate_left
  · rintro w' ⟨s0, s1⟩
    go_simp
    with_reducible rfl
  rotate_left
  · simp only [Act.put, List.setIfInBounds_toArray, List.set_cons_zero, List.set_cons_succ, i64_w, i32_w]
    rfl
  refine pure_ (i := 5) (N := some 20) (v := ?_) (a' := ?_) #[true, true, true, true, true, true, false, false, false, false, false, false] rfl rfl (by kernel_rfl) (fun _ _ _ h => h) (Or.inl ⟨by rfl, ?_⟩) ?_ ?_
  rotate_left
  · intro w'
    go_simp
    with_reducible rfl
  rotate_left
  · simp only [Act.put, List.setIfInBounds_toArray, List.set_cons_zero, List.set_cons_succ, i64_w, i32_w]
    rfl
  refine take_ (i := 6) (N := some 21) (v := ?_) (a' := ?_) #[true, true, true, true, true, true, true, false, false, false, false, false] rfl rfl (by kernel_rfl) (fun _ _ _ h => h) (Or.inl ⟨by rfl, ?_⟩) hHeld ?_ ?_
  rotate_left
  · rintro w' ⟨s0, s1⟩
    go_simp
    with_reducible rfl
  rotate_left
  · simp only [Act.put, List.setIfInBounds_toArray, List.set_cons_zero, List.set_cons_succ, i64_w, i32_w]
    rfl
  refine pure_ (i := 7) (N := some 22) (v := ?_) (a' := ?_) #[true, true, true, true, true, true, true, true, false, false, false, false] rfl rfl (by kernel_rfl) (fun _ _ _ h => h) (Or.inl ⟨by rfl, ?_⟩) ?_ ?_
  rotate_left
  · intro w'
    go_simp
    with_reducible rfl
  rotate_left
  · simp only [Act.put, List.setIfInBounds_toArray, List.set_cons_zero, List.set_cons_succ, i64_w, i32_w]
    rfl
  refine take_ (i := 8) (N := some 23) (v := ?_) (a' := ?_) #[true, true, true, true, true, true, true, true, true, false, false, false] rfl rfl (by kernel_rfl) (fun _ _ _ h => h) (Or.inl ⟨by rfl, ?_⟩) hHeld ?_ ?_
  rotate_left
  · rintro w' ⟨s0, s1⟩
    go_simp
    with_reducible rfl
  rotate_left
  · simp only [Act.put, List.setIfInBounds_toArray, List.set_cons_zero, List.set_cons_succ, i64_w, i32_w]
    rfl
  refine pure_ (i := 9) (N := some 24) (v := ?_) (a' := ?_) #[true, true, true, true, true, true, true, true, true, true, false, false] rfl rfl (by kernel_rfl) (fun _ _ _ h => h) (Or.inl ⟨by rfl, ?_⟩) ?_ ?_
  rotate_left
  · intro w'
    go_simp
    with_reducible rfl
  rotate_left
  · simp only [Act.put, List.setIfInBounds_toArray, List.set_cons_zero, List.set_cons_succ, i64_w, i32_w]
    rfl
  refine pure_ (i := 10) (N := some 25) (v := ?_) (a' := ?_) #[true, true, true, true, true, true, true, true, true, true, true, false] rfl rfl (by kernel_rfl) (fun _ _ _ h => h) (Or.inl ⟨by rfl, ?_⟩) ?_ ?_
  rotate_left
  · intro w'
    go_simp
    with_reducible rfl
  rotate_left
  · simp only [Act.put, List.setIfInBounds_toArray, List.set_cons_zero, List.set_cons_succ, i64_w, i32_w]
    rfl
  refine pure_ (i := 11) (N := some 26) (v := ?_) (a' := ?_) #[true, true, true, true, true, true, true, true, true, true, true, true] rfl rfl (by kernel_rfl) (fun _ _ _ h => h) (Or.inl ⟨by rfl, ?_⟩) ?_ ?_
  rotate_left
  · intro w'
    go_simp
    with_reducible rfl
  rotate_left
  · simp only [Act.put, List.setIfInBounds_toArray, List.set_cons_zero, List.set_cons_succ, i64_w, i32_w]
    rfl
  refine done_ (by kernel_rfl) ?_
  go_wp2
  go_ret2
  exact ⟨rfl, hb1.drew.trans (hb.mono (by simp))⟩
end Go.Proofs.Ytjolnjckgoilpaa.Gf
end

section
/-
  The walk of gf.Matrix.Inverse: square matrices.
-/
set_option linter.unusedVariables false
set_option linter.unusedSimpArgs false
namespace Go.Proofs.Ytjolnjckgoilpaa.Gf
open Go.RowKit Go.Proofs.YtjolnjckgoilpaaW.PrintWords Go.Proofs.YtjolnjckgoilpaaW.PrintLast Go.Proofs.Ytjolnjckgoilpaa.PRa

theorem copy_made (w W : World) (lm : List (List Int)) (Am : Option Addr) (cm n mb : Nat) (hn : n = lm.length) (hn255 : n ≤ 255) (hrow : ∀ i, i < n → (row lm i).length = n) (hW : Below w.heap.size w W) (hM : KR.C w Am lm.length lm)
    (hmb : W.cell? ⟨mb, 0, none⟩ = some (.slice Am lm.length cm)) (okm : okB lm = true) :
    Calls Try.prog 42 #[.int .i64 n, .int .i64 n, .func (.func 47) #[] #[.pointer (some ⟨mb, 0, none⟩)]] W
      fun e w' => ∃ b, e = .returned (.slice (some ⟨W.heap.size, 0, none⟩) n n) ∧ Outer W w' n n n b (fun j => rowCells n n (fun q => ((byt lm j q : Nat) : Int))) := by
  refine made_calls W n n 47 #[.pointer (some ⟨mb, 0, none⟩)] (fun i j => ((byt lm i j : Nat) : Int)) hn255 hn255 (Go.Proofs.enters_of Try.func47 (by kernel_rfl) rfl) ?_
  intro i j hi hj W' hW'
  refine (elem48 W' lm Am cm mb i j (Kd.C_below hM (hW.trans (hW'.mono hW.size))) (pw_cell_below hW' hmb) okm (by omega) (by rw [hrow i hi]; exact hj)).mono ?_
  rintro e w' ⟨rfl, rfl⟩
  exact ⟨rfl, Below.refl _ _⟩
set_option maxHeartbeats 4000000 in
theorem inv30_ok (w : World) (lm : List (List Int)) (Am : Option Addr) (cm n : Nat) (hM : KR.C w Am lm.length lm) (okm : okB lm = true) (hm : rightB lm = true) (hn : lm.length = n) (hsq : (row lm 0).length = n) :
    Calls Try.prog 30 #[.slice Am n cm] w fun e w' => (gj n n (byt lm, kronN) = none ∧ e = .returned (.tuple #[.slice none 0 0, .int .i64 4]) ∧ Below w.heap.size w w') ∨
      ∃ B5 B6 ga go ba bo s, gj n n (byt lm, kronN) = some s ∧ e = .returned (.tuple #[.slice (some ⟨go, 0, none⟩) n n, .int .i64 0]) ∧ St w w' B5 B6 ga go n ba bo s := by
  have hbm : ∀ i j, byt lm i j < 256 := fun i j => (okB_at okm i j).1
  have hb1 := below1 w (.cells #[.slice Am n cm] 46)
  have hca : (w.alloc (.cells #[.slice Am n cm] 46)).cell? ⟨w.heap.size, 0, none⟩ = some (.slice Am n cm) := by
    rw [World.cell?_alloc_at _ _ _ _ rfl]; rfl
  have HR := right_hid (c := cm) hM hm
  rw [hn] at HR
  have hn1 : 1 ≤ n := by simp [rightB] at hm; omega
  have hn255 : n ≤ 255 := by simp [rightB] at hm; omega
  have hrow : ∀ i, i < n → (row lm i).length = n := by
    simp only [rightB, Bool.and_eq_true, decide_eq_true_eq, Bool.not_eq_true', List.any_eq_false, List.mem_range, ne_eq, Decidable.not_not] at hm
    intro i hi
    rw [hm.2.2.2.2 i (by omega), hsq]
  obtain ⟨adm, A2, c2, rfl, hcell, hle, hI⟩ := rows_at hM (show 0 < lm.length by omega)
  rw [Addr.add_zero'] at hcell
  have hltm := World.block_lt_of_cell? w _ hcell
  have hcell2 := pw_cell_below hb1 hcell
  have HCM : Hid (∀ W, Below w.heap.size w W → W.cell? ⟨w.heap.size, 0, none⟩ = some (.slice (some adm) n cm) → Calls Try.prog 42 #[.int .i64 n, .int .i64 n, .func (.func 47) #[] #[.pointer (some ⟨w.heap.size, 0, none⟩)]] W
      fun e w' => ∃ b, e = .returned (.slice (some ⟨W.heap.size, 0, none⟩) n n) ∧ Outer W w' n n n b (fun j => rowCells n n (fun q => ((byt lm j q : Nat) : Int)))) := fun W hW hmb => copy_made w W lm (some adm) cm n _ hn.symm hn255 hrow hW hM (by rw [hn]; exact hmb) okm
  have HU : Hid (∀ W, Calls Try.prog 29 #[.int .i64 n] W fun e w' => ∃ b, e = .returned (.tuple #[.slice (some ⟨W.heap.size, 0, none⟩) n n, .int .i64 0]) ∧ Outer W w' n n n b (fun j => rowCells n n (kron j))) := fun W => unit22_out W n hn255 hn1
  have e2 : ((n : Int) != ((row lm 0).length : Int)) = false := by simp; omega
  have q : (0 : Int) < (n : Int) := by omega
  have qn : 0 < n := by omega
  have hmf : ∀ (fn : Fn) (first cap : Array Value) (w : World), (Instr.makeFunc fn first cap).run Try.prog w = .ok (.func fn first cap) w := fun _ _ _ _ => rfl
  generalize hbl : byt lm = bm at *
  clear hm hbl hsq hrow hI okm hM
  generalize row lm 0 = r at *
  go_enter Try.func30, Try.ntmps30
  go_wp2
  refine start_ (n := 12) (S := fun w' => w'.cell? ⟨w.heap.size, 0, none⟩ = some (.slice (some adm) n cm) ∧ w'.cell? adm = some (.slice A2 r.length c2)) (ds := []) #[false, false, false, false, false, false, false, false, false, false, false, false] (by kernel_rfl) rfl rfl ⟨hca, hcell2⟩ (fun hHeld => ?_)
  refine take_ (i := 0) (N := some 15) (v := ?_) (a' := ?_) #[true, false, false, false, false, false, false, false, false, false, false, false] rfl rfl (by kernel_rfl) (fun _ _ _ h => h) (Or.inl ⟨by rfl, ?_⟩) hHeld ?_ ?_
  rotate_left
  · rintro w' ⟨s0, s1⟩
    go_simp
    with_reducible rfl
  rotate_left
  · simp only [Act.put, List.setIfInBounds_toArray, List.set_cons_zero, List.set_cons_succ, i64_w, i32_w]
    rfl
  refine one_ (i := 1) (N := some 16) #[true, true, false, false, false, false, false, false, false, false, false, false] rfl rfl (by kernel_rfl) (by decide) (fun K hK => ?_)
  refine goes_ Try.func46 (by kernel_rfl) rfl #[.slice (some adm) n cm] (by rfl) rfl rfl (by simp only [List.map_toArray, List.map_cons, List.map_nil]; rfl) ?_
  refine Calls.mono (HR.out _ hb1.drew) ?_
  rintro e w2 ⟨rfl, hb⟩
  refine ⟨_, rfl, ?_⟩
  refine hK.out _ _ ⟨(hb.cell (p := ⟨w.heap.size, 0, none⟩) (by simp)).trans hca, (hb.cell (p := adm) (by simp; omega)).trans hcell2⟩ (fun hHeld => ?_)
  clear hK K
  refine norm_ (a' := ?_) ?_ ?_
  rotate_left
  · show Act.put _ (some 16) _ = _
    simp only [Act.put, List.setIfInBounds_toArray, List.set_cons_zero, List.set_cons_succ, i64_w, i32_w]
    rfl
  refine pure_ (i := 2) (N := some 17) (v := ?_) (a' := ?_) #[true, true, true, false, false, false, false, false, false, false, false, false] rfl rfl (by kernel_rfl) (fun _ _ _ h => h) (Or.inl ⟨by rfl, ?_⟩) ?_ ?_
  rotate_left
  · intro w'
    go_simp
    with_reducible rfl
  rotate_left
  · simp only [Act.put, List.setIfInBounds_toArray, List.set_cons_zero, List.set_cons_succ, i64_w, i32_w]
    rfl
  refine pure_ (i := 3) (N := some 18) (v := ?_) (a' := ?_) #[true, true, true, true, false, false, false, false, false, false, false, false] rfl rfl (by kernel_rfl) (fun _ _ _ h => h) (Or.inl ⟨by rfl, ?_⟩) ?_ ?_
  rotate_left
  · intro w'
    go_simp
    with_reducible rfl
  rotate_left
  · simp only [Act.put, List.setIfInBounds_toArray, List.set_cons_zero, List.set_cons_succ, i64_w, i32_w]
    rfl
  refine take_ (i := 4) (N := some 19) (v := ?_) (a' := ?_) #[true, true, true, true, true, false, false, false, false, false, false, false] rfl rfl (by kernel_rfl) (fun _ _ _ h => h) (Or.inl ⟨by rfl, ?_⟩) hHeld ?_ ?_
  rotate_left
  · rintro w' ⟨s0, s1⟩
    go_simp
    with_reducible rfl
  rotate_left
  · simp only [Act.put, List.setIfInBounds_toArray, List.set_cons_zero, List.set_cons_succ, i64_w, i32_w]
    rfl
  refine pure_ (i := 5) (N := some 20) (v := ?_) (a' := ?_) #[true, true, true, true, true, true, false, false, false, false, false, false] rfl rfl (by kernel_rfl) (fun _ _ _ h => h) (Or.inl ⟨by rfl, ?_⟩) ?_ ?_
  rotate_left
  · intro w'
    go_simp
    with_reducible rfl
  rotate_left
  · simp only [Act.put, List.setIfInBounds_toArray, List.set_cons_zero, List.set_cons_succ, i64_w, i32_w]
    rfl
  refine take_ (i := 6) (N := some 21) (v := ?_) (a' := ?_) #[true, true, true, true, true, true, true, false, false, false, false, false] rfl rfl (by kernel_rfl) (fun _ _ _ h => h) (Or.inl ⟨by rfl, ?_⟩) hHeld ?_ ?_
  rotate_left
  · rintro w' ⟨s0, s1⟩
    go_simp
    with_reducible rfl
  rotate_left
  · simp only [Act.put, List.setIfInBounds_toArray, List.set_cons_zero, List.set_cons_succ, i64_w, i32_w]
    rfl
  refine pure_ (i := 7) (N := some 22) (v := ?_) (a' := ?_) #[true, true, true, true, true, true, true, true, false, false, false, false] rfl rfl (by kernel_rfl) (fun _ _ _ h => h) (Or.inl ⟨by rfl, ?_⟩) ?_ ?_
  rotate_left
  · intro w'
    go_simp
    with_reducible rfl
  rotate_left
  · simp only [Act.put, List.setIfInBounds_toArray, List.set_cons_zero, List.set_cons_succ, i64_w, i32_w]
    rfl
  refine take_ (i := 8) (N := some 23) (v := ?_) (a' := ?_) #[true, true, true, true, true, true, true, true, true, false, false, false] rfl rfl (by kernel_rfl) (fun _ _ _ h => h) (Or.inl ⟨by rfl, ?_⟩) hHeld ?_ ?_
  rotate_left
  · rintro w' ⟨s0, s1⟩
    go_simp
    with_reducible rfl
  rotate_left
  · simp only [Act.put, List.setIfInBounds_toArray, List.set_cons_zero, List.set_cons_succ, i64_w, i32_w]
    rfl
  refine pure_ (i := 9) (N := some 24) (v := ?_) (a' := ?_) #[true, true, true, true, true, true, true, true, true, true, false, false] rfl rfl (by kernel_rfl) (fun _ _ _ h => h) (Or.inl ⟨by rfl, ?_⟩) ?_ ?_
  rotate_left
  · intro w'
    go_simp
    with_reducible rfl
  rotate_left
  · simp only [Act.put, List.setIfInBounds_toArray, List.set_cons_zero, List.set_cons_succ, i64_w, i32_w]
    rfl
  refine pure_ (i := 10) (N := some 25) (v := ?_) (a' := ?_) #[true, true, true, true, true, true, true, true, true, true, true, false] rfl rfl (by kernel_rfl) (fun _ _ _ h => h) (Or.inl ⟨by rfl, ?_⟩) ?_ ?_
  rotate_left
  · intro w'
    go_simp
    with_reducible rfl
  rotate_left
  · simp only [Act.put, List.setIfInBounds_toArray, List.set_cons_zero, List.set_cons_succ, i64_w, i32_w]
    rfl
  refine pure_ (i := 11) (N := some 26) (v := ?_) (a' := ?_) #[true, true, true, true, true, true, true, true, true, true, true, true] rfl rfl (by kernel_rfl) (fun _ _ _ h => h) (Or.inl ⟨by rfl, ?_⟩) ?_ ?_
  rotate_left
  · intro w'
    go_simp
    with_reducible rfl
  rotate_left
  · simp only [Act.put, List.setIfInBounds_toArray, List.set_cons_zero, List.set_cons_succ, i64_w, i32_w]
    rfl
  refine done_ (by kernel_rfl) ?_
  have hs2 := hb.size
  simp at hs2
  have hB2 := hb1.drew.trans (hb.mono (by simp))
  have hA2 : w2.cell? ⟨w.heap.size, 0, none⟩ = some (.slice (some adm) n cm) := (hb.cell (p := ⟨w.heap.size, 0, none⟩) (by simp)).trans hca
  clear hca hcell2 hb
  go_wp2_with (first | (go_at_call 42; refine Calls.mono (HCM.out _ hB2 hA2) ?_; rintro e w4 ⟨ba, rfl, hO1⟩) | (go_at_call 29; refine Calls.mono (HU.out _) ?_; rintro e w5 ⟨bo, rfl, hO2⟩))
  have hS := St.begin hB2 hO1 hO2 hbm
  clear hO1 hO2 hB2 hA2 hb1 hcell hHeld HR
  try clear HCM
  try clear HU
  have HB : Hid (∀ i j, bm i j < 256) := hbm
  clear hbm
  generalize w4.heap.size + 1 = go at *
  generalize w4.heap.size = B5 at *
  generalize w2.heap.size = ga at *
  generalize w5.alloc (.cells #[.slice (some ⟨go, 0, none⟩) n n] 46) = w6 at *
  generalize w5.heap.size = B6 at *
  go_loopw [40] (fun i wr => ∃ k ba bo s, k ≤ n ∧ i = .int .i64 (k : Nat) ∧ gj n k (bm, kronN) = some s ∧ St w wr B5 B6 ga go n ba bo s) (fun i _ => n - (intOf i).toNat)
  case atStart => exact ⟨0, ba, bo, _, Nat.zero_le _, rfl, rfl, hS⟩
  case round =>
    clear hS
    obtain ⟨k, ba, bo, s, hk, rfl, hgj, hS⟩ := hrel
    by_cases hlt : k < n
    · have hc5 := hS.cell5
      have hl5 := heap_lt hS.x5
      have hl6 := heap_lt hS.x6
      have HS : Hid (St w wr B5 B6 ga go n ba bo s) := hS
      have HG : Hid (gj n k (bm, kronN) = some s) := hgj
      clear hS hgj
      have q1 : (0 : Int) ≤ (k : Int) := by omega
      have q2 : (k : Int) ≤ (n : Int) := by omega
      have hck : (wr.alloc (.cells #[.int .i64 (k : Nat)] 3)).heap[wr.heap.size]? = some (.cells #[.int .i64 (k : Nat)] 3 (0, 0)) := heap_alloc_new wr _
      have hckc := box_cell hck
      have hb3 : Below wr.heap.size wr (wr.alloc (.cells #[.int .i64 (k : Nat)] 3)) := below1 wr _
      have hc52 := pw_cell_below hb3 hc5
      have HP : Hid (Calls Try.prog 49 #[.slice (some ⟨ga, k, none⟩) ((n - k : Nat)) ((n - k : Nat)), .func (.func 50) #[] #[.pointer (some ⟨wr.heap.size, 0, none⟩)]] (wr.alloc (.cells #[.int .i64 (k : Nat)] 3)) fun e w' => e = .returned (.int .i64 (pivot n k s.1)) ∧ Below (wr.alloc (.cells #[.int .i64 (k : Nat)] 3)).heap.size (wr.alloc (.cells #[.int .i64 (k : Nat)] 3)) w') := pivot50 (HS.out.step hb3) hn255 hlt hck
      have hl3 : wr.heap.size < (wr.alloc (.cells #[.int .i64 (k : Nat)] 3)).heap.size := by simp
      have hS3 := HS.out.step hb3
      rcases pivot_cases n k s.1 with hp | ⟨p, hkp, hp, hx⟩
      · have HN : Hid (gj n n (bm, kronN) = none) := gj_none HG.out hp n hlt
        have HBw : Hid (Below w.heap.size w (wr.alloc (.cells #[.int .i64 (k : Nat)] 3))) := hS3.below
        have b1 : decide (pivot n k s.1 < 0) = true := decide_eq_true hp
        clear hp hS3
        generalize pivot n k s.1 = pv at *
        go_wp2_with (go_at_call 49; refine Calls.mono HP.out ?_; rintro e w7 ⟨rfl, hb7⟩)
        go_ret2
        exact .inl ⟨HN.out, rfl, HBw.out.trans ((hb7.trans ((below1 w7 _).mono hb7.size)).mono HBw.out.size)⟩
      · have HG2 : Hid (gj n (k + 1) (bm, kronN) = some (elimN k n (normed k (k + p) s))) := gj_step HG.out hp
        rw [hp] at HP
        have hx2 : (swap2 k (k + p) s).1 k k ≠ 0 := by show swp s.1 k (k + p) k k ≠ 0; simpa [swp] using hx
        have hSw : ∀ w7, Below (wr.alloc (.cells #[.int .i64 (k : Nat)] 3)).heap.size (wr.alloc (.cells #[.int .i64 (k : Nat)] 3)) w7 → Calls Try.prog 48 #[.func (.func 51) #[] #[.pointer (some ⟨wr.heap.size, 0, none⟩), .pointer (some ⟨w7.heap.size, 0, none⟩)], .pointer (some ⟨B5, 0, none⟩), .pointer (some ⟨B6, 0, none⟩)] (w7.alloc (.cells #[.int .i64 (p : Nat)] 3))
          fun e w2 => e = .returned (.tuple #[]) ∧ St w w2 B5 B6 ga go n (swp ba k (k + p)) (swp bo k (k + p)) (swap2 k (k + p) s) ∧ w2.heap[wr.heap.size]? = some (.cells #[.int .i64 (k : Nat)] 3 (0, 0)) := fun w7 hb7 =>
          both_swap ((hS3.step hb7).step (below1 w7 _)) (blkalloc ((hb7.block _ hl3).trans hck) _) (heap_alloc_new w7 _) hkp hn255
        have HSw : Hid _ := hSw
        clear hSw hp hx hS3 HG HS
        unfold normed at HG2
        generalize swap2 k (k + p) s = s1 at *
        generalize swp ba k (k + p) = ba1 at *
        generalize swp bo k (k + p) = bo1 at *
        go_wp2_with (first | (go_at_call 49; refine Calls.mono HP.out ?_; rintro e w7 ⟨rfl, hb7⟩) | (go_at_call 48; refine Calls.mono (HSw.out w7 hb7) ?_; rintro e w9 ⟨rfl, hS9, hk9⟩))
        have hl9 : wr.heap.size < w9.heap.size := heap_lt hk9
        have c5 := hS9.cell5
        have ck := box_cell hk9
        have crow := hS9.a.cell hlt
        have cel := (hS9.a.row k hlt).cell hlt
        have hx256 := hS9.va k k hlt hlt
        have l5 := heap_lt hS9.x5
        have lga := heap_lt hS9.a.top
        have lrow := heap_lt (hS9.a.row k hlt)
        have hDiv : ∀ W, Calls Try.prog 52 #[.int .u8 1, .int .u8 (s1.1 k k : Nat)] W fun e w' => e = .returned (.tuple #[.int .u8 ((GfM.P (s1.1 k k) 254 : Nat) : Int), .int .i64 0]) ∧ Drawn0 W w' := fun W =>
          gf_Div.calls 400 1 _ _ _ W (by
            have := GaFacts.div_ok 400 1 (s1.1 k k) (by omega) (by omega) hx256 hx2
            rwa [M_one_left _ (GfM.P_lt _ _)] at this)
        have HD : Hid _ := hDiv
        have hy256 : GfM.P (s1.1 k k) 254 < 256 := GfM.P_lt _ _
        have HS9 : Hid (St w w9 B5 B6 ga go n ba1 bo1 s1) := hS9
        clear hDiv hS9 hx2 hx256 hc52 hckc hc5
        generalize GfM.P (s1.1 k k) 254 = y at *
        generalize s1.1 k k = x at *
        have HB1 : Hid (∀ j, j < n → ba1 j < w9.heap.size) := fun j hj => heap_lt (HS9.out.a.row j hj)
        generalize hbk : ba1 k = bk at *
        have hyb : ∀ m, ((w9.drewN m).alloc (.cells #[.int .u8 0] 5)).heap[w9.heap.size]? = some (.cells #[.int .u8 0] 5 (0, 0)) := fun m => heap_alloc_new (w9.drewN m) _
        have hybc : ∀ m, ((w9.drewN m).alloc (.cells #[.int .u8 0] 5)).cell? ⟨w9.heap.size, 0, none⟩ = some (.int .u8 0) := fun m => box_cell (hyb m)
        have hybf : ∀ m, ((w9.drewN m).alloc (.cells #[.int .u8 0] 5)).frozen? ⟨w9.heap.size, 0, none⟩ = false := fun m => by simp only [World.frozen?, hyb m]; rfl
        have qk1 : (0 : Int) ≤ (k : Int) := by omega
        have qk2 : (k : Int) < (n : Int) := by omega
        refine start_ (n := 14) (S := fun w' => w'.cell? ⟨B5, 0, none⟩ = some (.slice (some ⟨ga, 0, none⟩) n n) ∧ w'.cell? ⟨wr.heap.size, 0, none⟩ = some (.int .i64 (k : Nat)) ∧ w'.cell? ⟨ga, k, none⟩ = some (.slice (some ⟨bk, 0, none⟩) n n) ∧ w'.cell? ⟨bk, k, none⟩ = some (.int .u8 (x : Nat))) (ds := [12]) #[false, false, false, false, false, false, false, false, false, false, false, false, false, false] (by kernel_rfl) rfl rfl ⟨c5, ck, crow, cel⟩ (fun hHeld => ?_)
        refine take_ (i := 0) (N := some 54) (v := ?_) (a' := ?_) #[true, false, false, false, false, false, false, false, false, false, false, false, false, false] rfl rfl (by kernel_rfl) (fun _ _ _ h => h) (Or.inl ⟨by rfl, ?_⟩) hHeld ?_ ?_
        rotate_left
        · rintro w' ⟨s0, s1, s2, s3⟩
          go_simp
          with_reducible rfl
        rotate_left
        · simp only [Act.put, List.setIfInBounds_toArray, List.set_cons_zero, List.set_cons_succ, i64_w, i32_w]
          rfl
        refine take_ (i := 1) (N := some 55) (v := ?_) (a' := ?_) #[true, true, false, false, false, false, false, false, false, false, false, false, false, false] rfl rfl (by kernel_rfl) (fun _ _ _ h => h) (Or.inl ⟨by rfl, ?_⟩) hHeld ?_ ?_
        rotate_left
        · rintro w' ⟨s0, s1, s2, s3⟩
          go_simp
          with_reducible rfl
        rotate_left
        · simp only [Act.put, List.setIfInBounds_toArray, List.set_cons_zero, List.set_cons_succ, i64_w, i32_w]
          rfl
        refine pure_ (i := 2) (N := some 56) (v := ?_) (a' := ?_) #[true, true, true, false, false, false, false, false, false, false, false, false, false, false] rfl rfl (by kernel_rfl) (fun _ _ _ h => h) (Or.inl ⟨by rfl, ?_⟩) ?_ ?_
        rotate_left
        · intro w'
          go_simp
          with_reducible rfl
        rotate_left
        · simp only [Act.put, List.setIfInBounds_toArray, List.set_cons_zero, List.set_cons_succ, i64_w, i32_w]
          rfl
        refine take_ (i := 3) (N := some 57) (v := ?_) (a' := ?_) #[true, true, true, true, false, false, false, false, false, false, false, false, false, false] rfl rfl (by kernel_rfl) (fun _ _ _ h => h) (Or.inl ⟨by rfl, ?_⟩) hHeld ?_ ?_
        rotate_left
        · rintro w' ⟨s0, s1, s2, s3⟩
          go_simp
          with_reducible rfl
        rotate_left
        · simp only [Act.put, List.setIfInBounds_toArray, List.set_cons_zero, List.set_cons_succ, i64_w, i32_w]
          rfl
        refine take_ (i := 4) (N := some 58) (v := ?_) (a' := ?_) #[true, true, true, true, true, false, false, false, false, false, false, false, false, false] rfl rfl (by kernel_rfl) (fun _ _ _ h => h) (Or.inl ⟨by rfl, ?_⟩) hHeld ?_ ?_
        rotate_left
        · rintro w' ⟨s0, s1, s2, s3⟩
          go_simp
          with_reducible rfl
        rotate_left
        · simp only [Act.put, List.setIfInBounds_toArray, List.set_cons_zero, List.set_cons_succ, i64_w, i32_w]
          rfl
        refine pure_ (i := 5) (N := some 59) (v := ?_) (a' := ?_) #[true, true, true, true, true, true, false, false, false, false, false, false, false, false] rfl rfl (by kernel_rfl) (fun _ _ _ h => h) (Or.inl ⟨by rfl, ?_⟩) ?_ ?_
        rotate_left
        · intro w'
          go_simp
          with_reducible rfl
        rotate_left
        · simp only [Act.put, List.setIfInBounds_toArray, List.set_cons_zero, List.set_cons_succ, i64_w, i32_w]
          rfl
        refine take_ (i := 6) (N := some 60) (v := ?_) (a' := ?_) #[true, true, true, true, true, true, true, false, false, false, false, false, false, false] rfl rfl (by kernel_rfl) (fun _ _ _ h => h) (Or.inl ⟨by rfl, ?_⟩) hHeld ?_ ?_
        rotate_left
        · rintro w' ⟨s0, s1, s2, s3⟩
          go_simp
          with_reducible rfl
        rotate_left
        · simp only [Act.put, List.setIfInBounds_toArray, List.set_cons_zero, List.set_cons_succ, i64_w, i32_w]
          rfl
        refine join_ (σ := Unit) 2 #[true, true, true, true, true, true, true, true, true, true, true, true, false, false] (fun _ => [(61, Value.tuple #[.int .u8 (y : Nat), .int .i64 0]), (53, Value.tuple #[.int .u8 (y : Nat), .int .i64 0]), (62, Value.int .u8 (y : Nat)), (63, Value.int .i64 0), (11, Value.pointer (some ⟨w9.heap.size, 0, none⟩))]) (fun _ w' => ∃ m, w' = (w9.drewN m).alloc (.cells #[.int .u8 0] 5)) ?_ ?_
        rotate_left
        · intro hCont
          refine two_ (i := 7) (j := 11) (Ni := some 61) (Nj := some 11) #[true, true, true, true, true, true, true, true, false, false, false, false, false, false] #[true, true, true, true, true, true, true, false, false, false, false, true, false, false] rfl rfl rfl rfl (by kernel_rfl) (by decide) (by decide) (fun K hK => ?_) (fun K hK => ?_)
          · skip
            refine goes_ Try.func52 (by kernel_rfl) rfl #[.int .u8 1, .int .u8 (x : Nat)] (by rfl) rfl rfl (by simp only [List.map_toArray, List.map_cons, List.map_nil]; rfl) ?_
            refine Calls.mono (HD.out _) ?_
            rintro e w10 ⟨rfl, ⟨m, rfl⟩⟩
            refine ⟨_, rfl, ?_⟩
            refine hK.out _ _ ⟨c5, ck, crow, cel⟩ (fun hHeld => ?_)
            clear hK K
            refine norm_ (a' := ?_) ?_ ?_
            rotate_left
            · show Act.put _ (some 61) _ = _
              simp only [Act.put, List.setIfInBounds_toArray, List.set_cons_zero, List.set_cons_succ, i64_w, i32_w]
              rfl
            refine pure_ (i := 8) (N := some 53) (v := ?_) (a' := ?_) #[true, true, true, true, true, true, true, true, true, false, false, false, false, false] rfl rfl (by kernel_rfl) (fun _ _ _ h => h) (Or.inl ⟨by rfl, ?_⟩) ?_ ?_
            rotate_left
            · intro w'
              go_simp
              with_reducible rfl
            rotate_left
            · simp only [Act.put, List.setIfInBounds_toArray, List.set_cons_zero, List.set_cons_succ, i64_w, i32_w]
              rfl
            refine pure_ (i := 9) (N := some 62) (v := ?_) (a' := ?_) #[true, true, true, true, true, true, true, true, true, true, false, false, false, false] rfl rfl (by kernel_rfl) (fun _ _ _ h => h) (Or.inl ⟨by rfl, ?_⟩) ?_ ?_
            rotate_left
            · intro w'
              go_simp
              with_reducible rfl
            rotate_left
            · simp only [Act.put, List.setIfInBounds_toArray, List.set_cons_zero, List.set_cons_succ, i64_w, i32_w]
              rfl
            refine pure_ (i := 10) (N := some 63) (v := ?_) (a' := ?_) #[true, true, true, true, true, true, true, true, true, true, true, false, false, false] rfl rfl (by kernel_rfl) (fun _ _ _ h => h) (Or.inl ⟨by rfl, ?_⟩) ?_ ?_
            rotate_left
            · intro w'
              go_simp
              with_reducible rfl
            rotate_left
            · simp only [Act.put, List.setIfInBounds_toArray, List.set_cons_zero, List.set_cons_succ, i64_w, i32_w]
              rfl
            refine one_ (i := 11) (N := some 11) #[true, true, true, true, true, true, true, true, true, true, true, true, false, false] rfl rfl (by kernel_rfl) (by decide) (fun K hK => ?_)
            refine value_ (w1 := ?_) (v := ?_) (by rfl) rfl ?_ ?_
            rotate_left 2
            · go_simp
              constructor
              · rfl
              · rfl
            refine hK.out _ _ ⟨pw_cell_below (below1 _ _) c5, pw_cell_below (below1 _ _) ck, pw_cell_below (below1 _ _) crow, pw_cell_below (below1 _ _) cel⟩ (fun hHeld => ?_)
            clear hK K
            refine norm_ (a' := ?_) ?_ ?_
            rotate_left
            · show Act.put _ (some 11) _ = _
              simp only [Act.put, List.setIfInBounds_toArray, List.set_cons_zero, List.set_cons_succ, i64_w, i32_w]
              rfl
            exact norm_ (by simp only [putAll, Act.put, List.setIfInBounds_toArray, List.set_cons_zero, List.set_cons_succ]) (hCont () _ (by first | exact ⟨_, rfl⟩ | exact ⟨1 + m, by rw [World.drewN_drew]; rfl⟩))
          · skip
            refine value_ (w1 := ?_) (v := ?_) (by rfl) rfl ?_ ?_
            rotate_left 2
            · go_simp
              constructor
              · rfl
              · rfl
            refine hK.out _ _ ⟨pw_cell_below (below1 _ _) c5, pw_cell_below (below1 _ _) ck, pw_cell_below (below1 _ _) crow, pw_cell_below (below1 _ _) cel⟩ (fun hHeld => ?_)
            clear hK K
            refine norm_ (a' := ?_) ?_ ?_
            rotate_left
            · show Act.put _ (some 11) _ = _
              simp only [Act.put, List.setIfInBounds_toArray, List.set_cons_zero, List.set_cons_succ, i64_w, i32_w]
              rfl
            refine one_ (i := 7) (N := some 61) #[true, true, true, true, true, true, true, true, false, false, false, true, false, false] rfl rfl (by kernel_rfl) (by decide) (fun K hK => ?_)
            refine goes_ Try.func52 (by kernel_rfl) rfl #[.int .u8 1, .int .u8 (x : Nat)] (by rfl) rfl rfl (by simp only [List.map_toArray, List.map_cons, List.map_nil]; rfl) ?_
            refine Calls.mono (HD.out _) ?_
            rintro e w10 ⟨rfl, ⟨m, rfl⟩⟩
            refine ⟨_, rfl, ?_⟩
            refine hK.out _ _ ⟨pw_cell_below (below1 w9.drew _) c5, pw_cell_below (below1 w9.drew _) ck, pw_cell_below (below1 w9.drew _) crow, pw_cell_below (below1 w9.drew _) cel⟩ (fun hHeld => ?_)
            clear hK K
            refine norm_ (a' := ?_) ?_ ?_
            rotate_left
            · show Act.put _ (some 61) _ = _
              simp only [Act.put, List.setIfInBounds_toArray, List.set_cons_zero, List.set_cons_succ, i64_w, i32_w]
              rfl
            refine pure_ (i := 8) (N := some 53) (v := ?_) (a' := ?_) #[true, true, true, true, true, true, true, true, true, false, false, true, false, false] rfl rfl (by kernel_rfl) (fun _ _ _ h => h) (Or.inl ⟨by rfl, ?_⟩) ?_ ?_
            rotate_left
            · intro w'
              go_simp
              with_reducible rfl
            rotate_left
            · simp only [Act.put, List.setIfInBounds_toArray, List.set_cons_zero, List.set_cons_succ, i64_w, i32_w]
              rfl
            refine pure_ (i := 9) (N := some 62) (v := ?_) (a' := ?_) #[true, true, true, true, true, true, true, true, true, true, false, true, false, false] rfl rfl (by kernel_rfl) (fun _ _ _ h => h) (Or.inl ⟨by rfl, ?_⟩) ?_ ?_
            rotate_left
            · intro w'
              go_simp
              with_reducible rfl
            rotate_left
            · simp only [Act.put, List.setIfInBounds_toArray, List.set_cons_zero, List.set_cons_succ, i64_w, i32_w]
              rfl
            refine pure_ (i := 10) (N := some 63) (v := ?_) (a' := ?_) #[true, true, true, true, true, true, true, true, true, true, true, true, false, false] rfl rfl (by kernel_rfl) (fun _ _ _ h => h) (Or.inl ⟨by rfl, ?_⟩) ?_ ?_
            rotate_left
            · intro w'
              go_simp
              with_reducible rfl
            rotate_left
            · simp only [Act.put, List.setIfInBounds_toArray, List.set_cons_zero, List.set_cons_succ, i64_w, i32_w]
              rfl
            exact norm_ (by simp only [putAll, Act.put, List.setIfInBounds_toArray, List.set_cons_zero, List.set_cons_succ]) (hCont () _ (by first | exact ⟨_, rfl⟩ | exact ⟨1 + m, by rw [World.drewN_drew]; rfl⟩))
        rintro _ _ ⟨m, rfl⟩
        have hHeld : True := trivial
        refine norm_ (a' := ?_) ?_ ?_
        rotate_left
        · simp only [putAll, Act.put, List.setIfInBounds_toArray, List.set_cons_zero, List.set_cons_succ]
          rfl
        refine last_ (i := 12) (N := none) #[true, true, true, true, true, true, true, true, true, true, true, true, true, false] rfl rfl (by kernel_rfl) (by decide) (fun K hK => ?_)
        refine skip_ (w1 := ?_) (by rfl) rfl ?_ ?_
        rotate_left
        · go_simp
          rfl
        refine hK.out _ _ ?_
        clear hK K
        refine pure_ (i := 13) (N := some 12) (v := ?_) (a' := ?_) #[true, true, true, true, true, true, true, true, true, true, true, true, true, true] rfl rfl (by kernel_rfl) (fun _ _ _ h => h) (Or.inl ⟨by rfl, ?_⟩) ?_ ?_
        rotate_left
        · intro w'
          go_simp
          with_reducible rfl
        rotate_left
        · simp only [Act.put, List.setIfInBounds_toArray, List.set_cons_zero, List.set_cons_succ, i64_w, i32_w]
          rfl
        refine done_ (by kernel_rfl) ?_
        have hkY : ∀ v, (((w9.drewN m).alloc (.cells #[.int .u8 0] 5)).setCell ⟨w9.heap.size, 0, none⟩ v).heap[wr.heap.size]? = some (.cells #[.int .i64 (k : Nat)] 3 (0, 0)) := fun v => blkfar (blkalloc (show (w9.drewN m).heap[wr.heap.size]? = _ from hk9) _) (by show wr.heap.size ≠ w9.heap.size; omega) v
        have hYb : (((w9.drewN m).alloc (.cells #[.int .u8 0] 5)).setCell ⟨w9.heap.size, 0, none⟩ (.int .u8 (y : Nat))).heap[w9.heap.size]? = some (.cells #[.int .u8 (y : Nat)] 5 (0, 0)) := blkset (hyb m) 0 _
        have hbY : ∀ v, Below w9.heap.size w9 (((w9.drewN m).alloc (.cells #[.int .u8 0] 5)).setCell ⟨w9.heap.size, 0, none⟩ v) := fun v => ((pw_below_drewN (Below.refl _ _) m).alloc (Nat.le_refl _) _).setCell (Nat.le_refl _) v
        have hSY := HS9.out.step (hbY (.int .u8 (y : Nat)))
        have hScale := both_scale hSY (hkY _) hYb (fun j hj => by have := HB1.out j hj; omega) hlt hy256 hn255
        clear hkY hYb hbY hSY hyb hybc hybf cel crow ck c5 hk9 hHeld HS9 HSw HP
        generalize hgs : norm k y s1 = s2 at *
        generalize ((w9.drewN m).alloc (.cells #[.int .u8 0] 5)).setCell ⟨w9.heap.size, 0, none⟩ (.int .u8 (y : Nat)) = wY at *
        generalize w9.heap.size = yb at *
        generalize wr.heap.size = kb at *
        have HSc : Hid _ := hScale
        clear hScale
        go_wp2_with (go_at_call 48; refine Calls.mono HSc.out ?_; rintro e w11 ⟨rfl, hS11, hk11⟩)
        have HB2 : Hid (∀ j, j < n → ba1 j < yb) := HB1
        clear HSc HB1
        go_loopw [68] (fun v wx => ∃ i : Nat, i ≤ n ∧ v = .int .i64 (i : Nat) ∧ St w wx B5 B6 ga go n ba1 bo1 (elimN k i s2) ∧ wx.heap[kb]? = some (.cells #[.int .i64 (k : Nat)] 3 (0, 0))) (fun v _ => n - (intOf v).toNat)
        case atStart => exact ⟨0, Nat.zero_le _, rfl, hS11, hk11⟩
        case round =>
          clear hS11 hk11
          obtain ⟨i, hi, rfl, hSi, hki⟩ := hrel
          by_cases hlti : i < n
          · have b3 : Below wr.heap.size wr (wr.alloc (.cells #[.int .i64 (i : Nat)] 3)) := below1 wr _
            have hi3 : (wr.alloc (.cells #[.int .i64 (i : Nat)] 3)).heap[wr.heap.size]? = some (.cells #[.int .i64 (i : Nat)] 3 (0, 0)) := heap_alloc_new wr _
            have hk3 : (wr.alloc (.cells #[.int .i64 (i : Nat)] 3)).heap[kb]? = some (.cells #[.int .i64 (k : Nat)] 3 (0, 0)) := blkalloc hki _
            have hS3 := hSi.step b3
            have HN : Hid (elimN k (i + 1) s2 = elim1 k i (elimN k i s2)) := rfl
            clear hSi hki b3
            generalize elimN k i s2 = s3 at *
            go_wp2
            generalize wr.alloc (.cells #[.int .i64 (i : Nat)] 3) = w13 at *
            generalize wr.heap.size = ib at *
            have c5 := hS3.cell5
            have ck := box_cell hk3
            have ci := box_cell hi3
            have crow := hS3.a.cell hlti
            have cel := (hS3.a.row i hlti).cell hlt
            have hz256 := hS3.va i k hlti hlt
            have l5 := heap_lt hS3.x5
            have lga := heap_lt hS3.a.top
            have lrow := heap_lt (hS3.a.row i hlti)
            have lk := heap_lt hk3
            have li := heap_lt hi3
            have HSi : Hid (St w w13 B5 B6 ga go n ba1 bo1 s3) := hS3
            have HB4 : Hid (∀ j, j < n → ba1 j < w13.heap.size) := fun j hj => heap_lt (HSi.out.a.row j hj)
            clear hS3
            generalize hz : s3.1 i k = z at *
            generalize hbi : ba1 i = bi at *
            have qi1 : (0 : Int) ≤ (i : Int) := by omega
            have qi2 : (i : Int) < (n : Int) := by omega
            have hzb : (w13.drew.alloc (.cells #[.int .u8 0] 5)).heap[w13.heap.size]? = some (.cells #[.int .u8 0] 5 (0, 0)) := heap_alloc_new w13.drew _
            have hzbc := box_cell hzb
            have hzbf : (w13.drew.alloc (.cells #[.int .u8 0] 5)).frozen? ⟨w13.heap.size, 0, none⟩ = false := by simp only [World.frozen?, hzb]; rfl
            refine start_ (n := 9) (S := fun w' => w'.cell? ⟨B5, 0, none⟩ = some (.slice (some ⟨ga, 0, none⟩) n n) ∧ w'.cell? ⟨kb, 0, none⟩ = some (.int .i64 (k : Nat)) ∧ w'.cell? ⟨ib, 0, none⟩ = some (.int .i64 (i : Nat)) ∧ w'.cell? ⟨ga, i, none⟩ = some (.slice (some ⟨bi, 0, none⟩) n n) ∧ w'.cell? ⟨bi, k, none⟩ = some (.int .u8 (z : Nat))) (ds := [8]) #[false, false, false, false, false, false, false, false, false] (by kernel_rfl) rfl rfl ⟨c5, ck, ci, crow, cel⟩ (fun hHeld => ?_)
            refine take_ (i := 0) (N := some 71) (v := ?_) (a' := ?_) #[true, false, false, false, false, false, false, false, false] rfl rfl (by kernel_rfl) (fun _ _ _ h => h) (Or.inl ⟨by rfl, ?_⟩) hHeld ?_ ?_
            rotate_left
            · rintro w' ⟨s0, s1, s2, s3, s4⟩
              go_simp
              with_reducible rfl
            rotate_left
            · simp only [Act.put, List.setIfInBounds_toArray, List.set_cons_zero, List.set_cons_succ, i64_w, i32_w]
              rfl
            refine take_ (i := 1) (N := some 72) (v := ?_) (a' := ?_) #[true, true, false, false, false, false, false, false, false] rfl rfl (by kernel_rfl) (fun _ _ _ h => h) (Or.inl ⟨by rfl, ?_⟩) hHeld ?_ ?_
            rotate_left
            · rintro w' ⟨s0, s1, s2, s3, s4⟩
              go_simp
              with_reducible rfl
            rotate_left
            · simp only [Act.put, List.setIfInBounds_toArray, List.set_cons_zero, List.set_cons_succ, i64_w, i32_w]
              rfl
            refine pure_ (i := 2) (N := some 73) (v := ?_) (a' := ?_) #[true, true, true, false, false, false, false, false, false] rfl rfl (by kernel_rfl) (fun _ _ _ h => h) (Or.inl ⟨by rfl, ?_⟩) ?_ ?_
            rotate_left
            · intro w'
              go_simp
              with_reducible rfl
            rotate_left
            · simp only [Act.put, List.setIfInBounds_toArray, List.set_cons_zero, List.set_cons_succ, i64_w, i32_w]
              rfl
            refine take_ (i := 3) (N := some 74) (v := ?_) (a' := ?_) #[true, true, true, true, false, false, false, false, false] rfl rfl (by kernel_rfl) (fun _ _ _ h => h) (Or.inl ⟨by rfl, ?_⟩) hHeld ?_ ?_
            rotate_left
            · rintro w' ⟨s0, s1, s2, s3, s4⟩
              go_simp
              with_reducible rfl
            rotate_left
            · simp only [Act.put, List.setIfInBounds_toArray, List.set_cons_zero, List.set_cons_succ, i64_w, i32_w]
              rfl
            refine take_ (i := 4) (N := some 75) (v := ?_) (a' := ?_) #[true, true, true, true, true, false, false, false, false] rfl rfl (by kernel_rfl) (fun _ _ _ h => h) (Or.inl ⟨by rfl, ?_⟩) hHeld ?_ ?_
            rotate_left
            · rintro w' ⟨s0, s1, s2, s3, s4⟩
              go_simp
              with_reducible rfl
            rotate_left
            · simp only [Act.put, List.setIfInBounds_toArray, List.set_cons_zero, List.set_cons_succ, i64_w, i32_w]
              rfl
            refine pure_ (i := 5) (N := some 76) (v := ?_) (a' := ?_) #[true, true, true, true, true, true, false, false, false] rfl rfl (by kernel_rfl) (fun _ _ _ h => h) (Or.inl ⟨by rfl, ?_⟩) ?_ ?_
            rotate_left
            · intro w'
              go_simp
              with_reducible rfl
            rotate_left
            · simp only [Act.put, List.setIfInBounds_toArray, List.set_cons_zero, List.set_cons_succ, i64_w, i32_w]
              rfl
            refine take_ (i := 6) (N := some 77) (v := ?_) (a' := ?_) #[true, true, true, true, true, true, true, false, false] rfl rfl (by kernel_rfl) (fun _ _ _ h => h) (Or.inl ⟨by rfl, ?_⟩) hHeld ?_ ?_
            rotate_left
            · rintro w' ⟨s0, s1, s2, s3, s4⟩
              go_simp
              with_reducible rfl
            rotate_left
            · simp only [Act.put, List.setIfInBounds_toArray, List.set_cons_zero, List.set_cons_succ, i64_w, i32_w]
              rfl
            refine one_ (i := 7) (N := some 14) #[true, true, true, true, true, true, true, true, false] rfl rfl (by kernel_rfl) (by decide) (fun K hK => ?_)
            refine value_ (w1 := ?_) (v := ?_) (by rfl) rfl ?_ ?_
            rotate_left 2
            · go_simp
              constructor
              · rfl
              · rfl
            refine hK.out _ _ ⟨pw_cell_below (below1 _ _) c5, pw_cell_below (below1 _ _) ck, pw_cell_below (below1 _ _) ci, pw_cell_below (below1 _ _) crow, pw_cell_below (below1 _ _) cel⟩ (fun hHeld => ?_)
            clear hK K
            refine norm_ (a' := ?_) ?_ ?_
            rotate_left
            · show Act.put _ (some 14) _ = _
              simp only [Act.put, List.setIfInBounds_toArray, List.set_cons_zero, List.set_cons_succ, i64_w, i32_w]
              rfl
            refine last_ (i := 8) (N := none) #[true, true, true, true, true, true, true, true, true] rfl rfl (by kernel_rfl) (by decide) (fun K hK => ?_)
            refine skip_ (w1 := ?_) (by rfl) rfl ?_ ?_
            rotate_left
            · go_simp
              rfl
            refine hK.out _ _ ?_
            clear hK K
            refine done_ (by kernel_rfl) ?_
            have hbZ : Below w13.heap.size w13 (w13.alloc (.cells #[.int .u8 (z : Nat)] 5)).drew := (below1 w13 _).drew
            have hZb : (w13.alloc (.cells #[.int .u8 (z : Nat)] 5)).drew.heap[w13.heap.size]? = some (.cells #[.int .u8 (z : Nat)] 5 (0, 0)) := heap_alloc_new w13 _
            have hkZ := (hbZ.block _ lk).trans hk3
            have hiZ := (hbZ.block _ li).trans hi3
            have hSZ := HSi.out.step hbZ
            clear hbZ hzb hzbc hzbf cel crow ck c5 ci HSi
            generalize (w13.alloc (.cells #[.int .u8 (z : Nat)] 5)).drew = wZ at *
            generalize w13.heap.size = zb at *
            have ck := box_cell hkZ
            have ci := box_cell hiZ
            have cz := box_cell hZb
            have hS3 := hSZ
            have HSZ : Hid (St w wZ B5 B6 ga go n ba1 bo1 s3) := hS3
            have HKZ : Hid (wZ.heap[kb]? = some (.cells #[.int .i64 (k : Nat)] 3 (0, 0))) := hkZ
            clear hSZ
            by_cases e : i = k
            · have be : ((i : Int) != (k : Int)) = false := by simp; omega
              have HE : Hid (elim1 k i s3 = s3) := by show elim1 k i s3 = s3; unfold elim1; rw [if_neg (by omega)]
              clear hS3 hkZ hiZ hZb e hz
              go_wp2
              go_roundw
              case rel => exact ⟨i + 1, by omega, by go_num, by rw [HN.out, HE.out]; exact HSZ.out, HKZ.out⟩
              case measure => simp [intOf]; omega
            · have be : ((i : Int) != (k : Int)) = true := by simp; omega
              by_cases ez : z = 0
              · have bz : ((z : Int) != 0) = false := by simp; omega
                have HE : Hid (elim1 k i s3 = s3) := by show elim1 k i s3 = s3; unfold elim1; rw [if_neg (by omega)]
                clear hS3 hkZ hiZ hZb e ez hz
                go_wp2
                go_roundw
                case rel => exact ⟨i + 1, by omega, by go_num, by rw [HN.out, HE.out]; exact HSZ.out, HKZ.out⟩
                case measure => simp [intOf]; omega
              · have bz : ((z : Int) != 0) = true := by simp; omega
                have HE : Hid (elim1 k i s3 = add1 i k z s3) := by show elim1 k i s3 = add1 i k z s3; unfold elim1; rw [if_pos (by omega), hz]
                have hPlus := both_plus hS3 hiZ hkZ hZb (fun j hj => by have := HB4.out j hj; omega) hlti hlt e hz256 hn255
                have HPl : Hid _ := hPlus
                clear hPlus hS3 hkZ hiZ hZb HSZ HKZ e ez hz
                go_wp2_with (go_at_call 48; refine Calls.mono HPl.out ?_; rintro e w15 ⟨rfl, hS15, hk15⟩)
                go_roundw
                case rel => exact ⟨i + 1, by omega, by go_num, by rw [HN.out, HE.out]; exact hS15, hk15⟩
                case measure => simp [intOf]; omega
          · obtain rfl : i = n := by omega
            go_wp2
            go_roundw
            case rel => exact ⟨k + 1, ba1, bo1, _, by omega, by go_num, HG2.out, hSi⟩
            case measure => simp [intOf]; omega
    · obtain rfl : k = n := by omega
      have c6 := hS.cell6
      have HSe : Hid (St w wr B5 B6 ga go k ba bo s) := hS
      have HGe : Hid (gj k k (bm, kronN) = some s) := hgj
      clear hS hgj
      go_wp2
      go_ret2
      exact .inr ⟨B5, B6, ga, go, ba, bo, s, HGe.out, rfl, HSe.out⟩
end Go.Proofs.Ytjolnjckgoilpaa.Gf
end

section
/-
  gf.Matrix.Inverse, as its callers see it.
-/
set_option linter.unusedVariables false
set_option linter.unusedSimpArgs false
namespace Go.Proofs.Ytjolnjckgoilpaa.Gf
open Go.RowKit Go.Proofs.YtjolnjckgoilpaaW.PrintWords Go.Proofs.YtjolnjckgoilpaaW.PrintLast Go.Proofs.Ytjolnjckgoilpaa.PRa

theorem Grid.owned {wr : World} {g n base : Nat} {b : Nat → Nat} {f : Nat → Nat → Nat} (h : Grid wr g b n f) (hn : n ≤ 255) (hg : base ≤ g) (hb : ∀ j, j < n → base ≤ b j) :
    Kd.S (Kd.slice 5 (Kd.int .u8)) 25 wr base (fun _ => True) (.slice (some ⟨g, 0, none⟩) n n) (matrix n n fun i j => ((f i j : Nat) : Int)) := by
  have hne : ∀ j, j < n → b j ≠ g := fun j hj => (type_ne h.top (h.row j hj) (by decide)).symm
  refine ⟨fun k => ((List.range n).find? fun j => b j == k).getD 0, fun _ _ => trivial, (topCells n n n b).toList, ⟨?_, .inr ⟨g, n, topCells n n n b, ?_, hg, h.top, ?_, ?_, ?_, ?_⟩⟩, ?_, fun j p hj => ?_⟩
  · simp [topCells, matrix, Kd.tag, Kd.slice]
  · simp [matrix]
  · simp [matrix]
  · unfold maxLen; omega
  · simp [topCells, Kd.tag, Kd.slice]
  · rw [List.take_of_length_le (by simp [topCells, matrix, Kd.tag, Kd.slice])]
  · simp [topCells, matrix, Kd.tag, Kd.slice]
  · have hz : (matrix n n fun i j => ((f i j : Nat) : Int)).zipIdx[j]? = some p := hj
    rw [List.getElem?_zipIdx] at hz
    obtain ⟨r, hr, rfl⟩ := Option.map_eq_some_iff.1 hz
    have hjn : j < n := by
      have := (List.getElem?_eq_some_iff.1 hr).1
      simpa [matrix] using this
    have hr2 : r = (List.range n).map fun q => ((f j q : Nat) : Int) := by
      simp [matrix, hjn] at hr
      exact hr.symm
    subst hr2
    have hcs : (((topCells n n n b).toList.drop (j * 1)).take 1) = [.slice (some ⟨b j, 0, none⟩) n n] := by
      have hlen : j < (topCells n n n b).toList.length := by simp [topCells, hjn]
      rw [Nat.mul_one, List.drop_eq_getElem_cons hlen]
      simp [topCells, hjn]
    show ∃ v, (((topCells n n n b).toList.drop (j * 1)).take 1) = [v] ∧ _
    refine ⟨_, hcs, Kd.R_of_own ⟨?_, .inr ⟨b j, n, byC n (f j), ?_, hb j hjn, h.row j hjn, ?_, ?_, ?_, ?_⟩⟩ ?_⟩
    · simp [encs]
    · simp
    · simp
    · unfold maxLen; omega
    · simp [byC]
    · rw [List.take_of_length_le (by simp [byC]), ← rowCells_byC, rowCells_nums]
      rfl
    · intro k hk
      have hk2 : b j = k := by simpa [Value.ownBlock] using hk
      subst hk2
      refine ⟨⟨trivial, ?_⟩, ?_⟩
      · have := hne j hjn
        simp only [Value.ownBlock]
        intro e
        injection e with e
        omega
      · show (List.find? _ _).getD 0 = 0 + j
        have : (List.range n).find? (fun q => b q == b j) = some j := by
          rw [List.find?_eq_some_iff_getElem]
          refine ⟨by simp, j, by simpa using hjn, by simp, fun q hq => ?_⟩
          simp
          intro e
          have := h.inj q j (by omega) hjn e
          omega
        rw [this]
        simp
/-- What it tells; none where an element is no byte. -/
def invF (l : List (List Int)) : Option (List (List Int) × Int) :=
  if okB l = true then
    (if rightB l = true ∧ l.length = (row l 0).length then
      (match gj l.length l.length (byt l, kronN) with
        | none => some ([], 4)
        | some s => some (matrix l.length l.length (fun i j => ((s.2 i j : Nat) : Int)), 0))
    else some ([], 1))
  else none
theorem inv_calls (A0 : Option Addr) (c0 : Nat) (l0 : List (List Int)) (r1 : List (List Int)) (r2 : Int) (w : World) (hr0 : Kd.C (Kd.slice 5 (Kd.int .u8)) w A0 l0.length l0) (h : invF l0 = some (r1, r2)) :
    Calls Try.prog 30 #[.slice A0 l0.length c0] w fun e w' => ∃ v0_ : Value, e = .returned (.tuple #[v0_, .int .i64 r2]) ∧ Kd.S (Kd.slice 5 (Kd.int .u8)) 25 w' w.heap.size (fun _ => True) v0_ r1 ∧ Below w.heap.size w w' := by
  unfold invF at h
  by_cases ok : okB l0 = true
  · rw [if_pos ok] at h
    by_cases hm : rightB l0 = true ∧ l0.length = (row l0 0).length
    · rw [if_pos hm] at h
      refine (inv30_ok w l0 A0 c0 l0.length hr0 ok hm.1 rfl hm.2.symm).mono ?_
      rintro e w' (⟨hg, rfl, hb⟩ | ⟨B5, B6, ga, go, ba, bo, s, hg, rfl, hS⟩)
      · rw [hg] at h
        simp only [Option.some.injEq, Prod.mk.injEq] at h
        obtain ⟨rfl, rfl⟩ := h
        exact ⟨_, rfl, Kd.S_nil _ _ _ _ _, hb⟩
      · rw [hg] at h
        simp only [Option.some.injEq, Prod.mk.injEq] at h
        obtain ⟨rfl, rfl⟩ := h
        have hn : l0.length ≤ 255 := by have := hm.1; simp [rightB] at this; omega
        exact ⟨_, rfl, hS.o.owned hn hS.lo.1 hS.lo.2, hS.below⟩
    · rw [if_neg hm] at h
      simp only [Option.some.injEq, Prod.mk.injEq] at h
      obtain ⟨rfl, rfl⟩ := h
      by_cases e : rightB l0 = true
      · refine (inv30_no2 w l0 A0 c0 hr0 e (fun h => hm ⟨e, h⟩)).mono ?_
        rintro e w' ⟨rfl, hb⟩
        exact ⟨_, rfl, Kd.S_nil _ _ _ _ _, hb⟩
      · refine (inv30_no1 w l0 A0 c0 hr0 (by simpa using e)).mono ?_
        rintro e w' ⟨rfl, hb⟩
        exact ⟨_, rfl, Kd.S_nil _ _ _ _ _, hb⟩
  · rw [if_neg ok] at h; cases h
end Go.Proofs.Ytjolnjckgoilpaa.Gf
end
