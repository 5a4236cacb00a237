/-
  Rows of bytes that the call owns, written in place: gf.scale, gf.plus, and the reference's scale and mix; each turns one block and nothing else.
-/
import Derived.Test.YtjolnjckgoilpaaGfTimes
import Derived.Test.YtjolnjckgoilpaaGaFacts
set_option linter.unusedVariables false
set_option linter.unusedSimpArgs false
namespace Go.Proofs.Ytjolnjckgoilpaa.Gf
open Go.RowKit Go.Proofs.YtjolnjckgoilpaaW.PrintWords Go.Proofs.YtjolnjckgoilpaaW.PrintLast Go.Proofs.Ytjolnjckgoilpaa.PRa

/-- A row's cells. -/
def byC (c : Nat) (f : Nat → Nat) : Array Value := ((List.range c).map fun j => Value.int .u8 ((f j : Nat) : Int)).toArray
theorem byC_at {c j : Nat} {f : Nat → Nat} (h : j < c) : (byC c f)[j]? = some (.int .u8 ((f j : Nat) : Int)) := by simp [byC, h]
theorem byC_set {c j : Nat} {f : Nat → Nat} (y : Nat) : (byC c f).setIfInBounds j (.int .u8 ((y : Nat) : Int)) = byC c (fun q => if q = j then y else f q) := by
  apply Array.ext
  · simp [byC]
  · intro k h1 h2
    simp [byC] at h1
    rw [Array.getElem_setIfInBounds]
    simp [byC]
    by_cases e : j = k
    · subst e; simp
    · simp [e, Ne.symm e]
    simpa [byC] using h1
theorem byC_congr {c : Nat} {f g : Nat → Nat} (h : ∀ j, j < c → f j = g j) : byC c f = byC c g := by
  simp only [byC]
  congr 1
  apply List.map_congr_left
  intro j hj
  rw [h j (by simpa using hj)]
/-- Block d is a row of bytes. -/
def RowAt (w : World) (d c : Nat) (f : Nat → Nat) : Prop := w.heap[d]? = some (.cells (byC c f) 5 (0, 0))
theorem RowAt.cell {w : World} {d c j : Nat} {f : Nat → Nat} (h : RowAt w d c f) (hj : j < c) : w.cell? ⟨d, j, none⟩ = some (.int .u8 ((f j : Nat) : Int)) := by
  rw [cell_of_row w d j _ 5 (0, 0) h, byC_at hj]
theorem RowAt.frozen {w : World} {d c : Nat} {f : Nat → Nat} (h : RowAt w d c f) (j : Nat) : w.frozen? ⟨d, j, none⟩ = false := by
  unfold RowAt at h
  simp [World.frozen?, h]
theorem RowAt.set_ {w : World} {d c : Nat} {f : Nat → Nat} (h : RowAt w d c f) (j y : Nat) : RowAt (w.setCell ⟨d, j, none⟩ (.int .u8 ((y : Nat) : Int))) d c (fun q => if q = j then y else f q) := by
  have := blkset h j (.int .u8 ((y : Nat) : Int))
  rw [byC_set] at this
  exact this
theorem RowAt.far {w : World} {d c : Nat} {f : Nat → Nat} (h : RowAt w d c f) {p : Addr} (hp : d ≠ p.block) (u : Value) : RowAt (w.setCell p u) d c f := blkfar h hp u
theorem RowAt.same {w : World} {d c : Nat} {f g : Nat → Nat} (h : RowAt w d c f) (e : ∀ j, j < c → f j = g j) : RowAt w d c g := by
  unfold RowAt at h ⊢
  rw [h, byC_congr e]
theorem RowAt.drewN {w : World} {d c : Nat} {f : Nat → Nat} (h : RowAt w d c f) (n : Nat) : RowAt (w.drewN n) d c f := h
theorem RowAt.drew {w : World} {d c : Nat} {f : Nat → Nat} (h : RowAt w d c f) : RowAt w.drew d c f := h
theorem RowAt.kept {w w' : World} {d c : Nat} {f : Nat → Nat} {row : Option Nat} (h : RowAt w d c f) (hg : w.grownBy w' row) (hne : some d ≠ row) : RowAt w' d c f := (hg.block d (heap_lt h) hne).trans h
theorem only_drewN {a w : World} {row : Option Nat} (h : a.grownBy w row) (n : Nat) : a.grownBy (w.drewN n) row := ⟨h.os, h.tape, h.output, h.size, h.block⟩
theorem only_drew {a w : World} {row : Option Nat} (h : a.grownBy w row) : a.grownBy w.drew row := ⟨h.os, h.tape, h.output, h.size, h.block⟩
theorem only_set {a w : World} {g : Nat} (h : a.grownBy w (some g)) (j : Nat) (u : Value) : a.grownBy (w.setCell ⟨g, j, none⟩ u) (some g) :=
  ⟨h.os, h.tape, h.output, by simpa [World.setCell] using h.size, fun i hi hne => (Below.heap_setCell w ⟨g, j, none⟩ u i (by
    rintro rfl
    exact hne rfl)).trans (h.block i hi hne)⟩
theorem mul_hid (k a b : Nat) (hk : 9 ≤ k) (ha : a < 256) (hb : b < 256) : Hid (∀ W, Calls Try.prog 60 #[.int .u8 a, .int .u8 b] W fun e w' => e = .returned (.int .u8 ((GfM.M a b : Nat) : Int)) ∧ Drawn0 W w') :=
  fun W => gf_Mul.calls k _ _ _ W (mul_ok k a b hk ha hb)

set_option maxHeartbeats 1000000 in
theorem scale54 (w : World) (d c y : Nat) (f : Nat → Nat) (hR : RowAt w d c f) (hf : ∀ j, j < c → f j < 256) (hy : y < 256) (hc : c ≤ 1000000) :
    Calls Try.prog 54 #[.slice (some ⟨d, 0, none⟩) c c, .int .u8 y] w fun e w' => e = .returned (.tuple #[]) ∧ w.grownBy w' (some d) ∧ RowAt w' d c (fun j => GfM.M (f j) y) := by
  go_enter Try.func54, Try.ntmps54
  go_wp2
  go_loopw [7] (fun i wr => ∃ k : Nat, k ≤ c ∧ i = .int .i64 (k : Nat) ∧ w.grownBy wr (some d) ∧ RowAt wr d c (fun j => if j < k then GfM.M (f j) y else f j)) (fun i _ => c - (intOf i).toNat)
  case atStart => exact ⟨0, Nat.zero_le _, rfl, World.grownBy.refl _ _, hR.same (fun j _ => by simp)⟩
  case round =>
    obtain ⟨k, hk, rfl, hG, hO⟩ := hrel
    by_cases hlt : k < c
    · have hcell := hO.cell hlt
      rw [if_neg (by omega)] at hcell
      have hfr := hO.frozen k
      have HM := mul_hid 9 (f k) y (by omega) (hf k hlt) hy
      have hO2 : ∀ n, RowAt ((wr.drewN n).setCell ⟨d, k, none⟩ (.int .u8 ((GfM.M (f k) y : Nat) : Int))) d c (fun j => if j < k + 1 then GfM.M (f j) y else f j) := fun n => ((hO.drewN n).set_ k _).same (fun j _ => by
        by_cases e : j = k
        · subst e; simp
        · by_cases h : j < k
          · rw [if_neg e, if_pos h, if_pos (by omega)]
          · rw [if_neg e, if_neg h, if_neg (by omega)])
      have HO2 : Hid (∀ n, RowAt ((wr.drewN n).setCell ⟨d, k, none⟩ (.int .u8 ((GfM.M (f k) y : Nat) : Int))) d c (fun j => if j < k + 1 then GfM.M (f j) y else f j)) := hO2
      clear hO2 hO
      generalize GfM.M (f k) y = m at HM HO2
      generalize f k = x at *
      go_wp2_with (go_at_call 60; refine Calls.mono (HM.out _) ?_; rintro e w2 ⟨rfl, ⟨nd, rfl⟩⟩)
      go_roundw
      case rel => exact ⟨k + 1, by omega, by go_num, only_set (only_drewN hG _) _ _, HO2.out _⟩
      case measure => simp [intOf]; omega
    · obtain rfl : k = c := by omega
      go_wp2
      go_end0
      exact ⟨rfl, hG, hO.same (fun j hj => by rw [if_pos hj])⟩

/-- A row plus another one's multiple. -/
def mixf (f h : Nat → Nat) (y : Nat) : Nat → Nat := fun j => f j ^^^ GfM.M (h j) y
set_option maxHeartbeats 2000000 in
theorem plus56 (w : World) (d o c y : Nat) (f h : Nat → Nat) (hR : RowAt w d c f) (hO : RowAt w o c h) (hne : o ≠ d) (hf : ∀ j, j < c → f j < 256) (hh : ∀ j, j < c → h j < 256) (hy : y < 256) (hc : c ≤ 1000000) :
    Calls Try.prog 56 #[.slice (some ⟨d, 0, none⟩) c c, .slice (some ⟨o, 0, none⟩) c c, .int .u8 y] w fun e w' => e = .returned (.tuple #[]) ∧ w.grownBy w' (some d) ∧ RowAt w' d c (mixf f h y) := by
  go_enter Try.func56, Try.ntmps56
  go_wp2
  go_loopw [9] (fun i wr => ∃ k : Nat, k ≤ c ∧ i = .int .i64 (k : Nat) ∧ w.grownBy wr (some d) ∧ RowAt wr d c (fun j => if j < k then mixf f h y j else f j)) (fun i _ => c - (intOf i).toNat)
  case atStart => exact ⟨0, Nat.zero_le _, rfl, World.grownBy.refl _ _, hR.same (fun j _ => by simp)⟩
  case round =>
    obtain ⟨k, hk, rfl, hG, hD⟩ := hrel
    by_cases hlt : k < c
    · have hcell := hD.cell hlt
      rw [if_neg (by omega)] at hcell
      have hfr := hD.frozen k
      have hcell2 := (hO.kept hG (by intro e; injection e with e; exact hne e)).cell hlt
      have HM := mul_hid 9 (h k) y (by omega) (hh k hlt) hy
      have hml := GfM.M_lt (h k) y (hh k hlt)
      have HA : Hid (∀ W, Calls Try.prog 69 #[.int .u8 (f k), .int .u8 (GfM.M (h k) y)] W fun e w' => e = .returned (.int .u8 ((f k ^^^ GfM.M (h k) y : Nat) : Int)) ∧ W = w') := fun W => add19 (f k) (GfM.M (h k) y) (hf k hlt) hml W
      have hO2 : ∀ W : World, RowAt W d c (fun j => if j < k then mixf f h y j else f j) → RowAt (W.setCell ⟨d, k, none⟩ (.int .u8 ((f k ^^^ GfM.M (h k) y : Nat) : Int))) d c (fun j => if j < k + 1 then mixf f h y j else f j) := fun W hW => (hW.set_ k _).same (fun j _ => by
        by_cases e : j = k
        · subst e; simp [mixf]
        · by_cases h : j < k
          · rw [if_neg e, if_pos h, if_pos (by omega)]
          · rw [if_neg e, if_neg h, if_neg (by omega)])
      have HO2 : Hid (∀ W : World, RowAt W d c (fun j => if j < k then mixf f h y j else f j) → RowAt (W.setCell ⟨d, k, none⟩ (.int .u8 ((f k ^^^ GfM.M (h k) y : Nat) : Int))) d c (fun j => if j < k + 1 then mixf f h y j else f j)) := hO2
      have HD : Hid (RowAt wr d c (fun j => if j < k then mixf f h y j else f j)) := hD
      have q1 : (0 : Int) ≤ (k : Int) := by omega
      have q2 : (k : Int) < (c : Int) := by omega
      clear hO2 hD hml
      generalize f k ^^^ GfM.M (h k) y = s at HA HO2
      generalize GfM.M (h k) y = m at *
      generalize f k = x at *
      generalize h k = z at *
      go_wp2
      refine start_ (n := 15) (S := fun w' => w'.cell? ⟨d, k, none⟩ = some (.int .u8 (x : Int)) ∧ w'.cell? ⟨o, k, none⟩ = some (.int .u8 (z : Int))) (ds := [14]) #[false, false, false, false, false, false, false, false, false, false, false, false, false, false, false] (by kernel_rfl) rfl rfl ⟨hcell, hcell2⟩ (fun hHeld => ?_)
      refine pure_ (i := 0) (N := some 12) (v := ?_) (a' := ?_) #[true, false, false, false, false, false, false, false, false, false, false, false, false, false, false] rfl rfl (by kernel_rfl) (fun _ _ _ h => h) (Or.inl ⟨by rfl, ?_⟩) ?_ ?_
      rotate_left
      · intro w'
        go_simp
        with_reducible rfl
      rotate_left
      · simp only [Act.put, List.setIfInBounds_toArray, List.set_cons_zero, List.set_cons_succ, i64_w, i32_w]
        rfl
      refine pure_ (i := 1) (N := some 13) (v := ?_) (a' := ?_) #[true, true, false, false, false, false, false, false, false, false, false, false, false, false, false] rfl rfl (by kernel_rfl) (fun _ _ _ h => h) (Or.inl ⟨by rfl, ?_⟩) ?_ ?_
      rotate_left
      · intro w'
        go_simp
        with_reducible rfl
      rotate_left
      · simp only [Act.put, List.setIfInBounds_toArray, List.set_cons_zero, List.set_cons_succ, i64_w, i32_w]
        rfl
      refine pure_ (i := 2) (N := some 14) (v := ?_) (a' := ?_) #[true, true, true, false, false, false, false, false, false, false, false, false, false, false, false] rfl rfl (by kernel_rfl) (fun _ _ _ h => h) (Or.inl ⟨by rfl, ?_⟩) ?_ ?_
      rotate_left
      · intro w'
        go_simp
        with_reducible rfl
      rotate_left
      · simp only [Act.put, List.setIfInBounds_toArray, List.set_cons_zero, List.set_cons_succ, i64_w, i32_w]
        rfl
      refine pure_ (i := 3) (N := some 15) (v := ?_) (a' := ?_) #[true, true, true, true, false, false, false, false, false, false, false, false, false, false, false] rfl rfl (by kernel_rfl) (fun _ _ _ h => h) (Or.inl ⟨by rfl, ?_⟩) ?_ ?_
      rotate_left
      · intro w'
        go_simp
        with_reducible rfl
      rotate_left
      · simp only [Act.put, List.setIfInBounds_toArray, List.set_cons_zero, List.set_cons_succ, i64_w, i32_w]
        rfl
      refine pure_ (i := 4) (N := some 16) (v := ?_) (a' := ?_) #[true, true, true, true, true, false, false, false, false, false, false, false, false, false, false] rfl rfl (by kernel_rfl) (fun _ _ _ h => h) (Or.inl ⟨by rfl, ?_⟩) ?_ ?_
      rotate_left
      · intro w'
        go_simp
        with_reducible rfl
      rotate_left
      · simp only [Act.put, List.setIfInBounds_toArray, List.set_cons_zero, List.set_cons_succ, i64_w, i32_w]
        rfl
      refine pure_ (i := 6) (N := some 18) (v := ?_) (a' := ?_) #[true, true, true, true, true, false, true, false, false, false, false, false, false, false, false] rfl rfl (by kernel_rfl) (fun _ _ _ h => h) (Or.inl ⟨by rfl, ?_⟩) ?_ ?_
      rotate_left
      · intro w'
        go_simp
        with_reducible rfl
      rotate_left
      · simp only [Act.put, List.setIfInBounds_toArray, List.set_cons_zero, List.set_cons_succ, i64_w, i32_w]
        rfl
      refine pure_ (i := 7) (N := some 19) (v := ?_) (a' := ?_) #[true, true, true, true, true, false, true, true, false, false, false, false, false, false, false] rfl rfl (by kernel_rfl) (fun _ _ _ h => h) (Or.inl ⟨by rfl, ?_⟩) ?_ ?_
      rotate_left
      · intro w'
        go_simp
        with_reducible rfl
      rotate_left
      · simp only [Act.put, List.setIfInBounds_toArray, List.set_cons_zero, List.set_cons_succ, i64_w, i32_w]
        rfl
      refine pure_ (i := 8) (N := some 20) (v := ?_) (a' := ?_) #[true, true, true, true, true, false, true, true, true, false, false, false, false, false, false] rfl rfl (by kernel_rfl) (fun _ _ _ h => h) (Or.inl ⟨by rfl, ?_⟩) ?_ ?_
      rotate_left
      · intro w'
        go_simp
        with_reducible rfl
      rotate_left
      · simp only [Act.put, List.setIfInBounds_toArray, List.set_cons_zero, List.set_cons_succ, i64_w, i32_w]
        rfl
      refine pure_ (i := 10) (N := some 22) (v := ?_) (a' := ?_) #[true, true, true, true, true, false, true, true, true, false, true, false, false, false, false] rfl rfl (by kernel_rfl) (fun _ _ _ h => h) (Or.inl ⟨by rfl, ?_⟩) ?_ ?_
      rotate_left
      · intro w'
        go_simp
        with_reducible rfl
      rotate_left
      · simp only [Act.put, List.setIfInBounds_toArray, List.set_cons_zero, List.set_cons_succ, i64_w, i32_w]
        rfl
      refine take_ (i := 5) (N := some 17) (v := ?_) (a' := ?_) #[true, true, true, true, true, true, true, true, true, false, true, false, false, false, false] rfl rfl (by kernel_rfl) (fun _ _ _ h => h) (Or.inl ⟨by rfl, ?_⟩) hHeld ?_ ?_
      rotate_left
      · rintro w' ⟨s0, s1⟩
        go_simp
        with_reducible rfl
      rotate_left
      · simp only [Act.put, List.setIfInBounds_toArray, List.set_cons_zero, List.set_cons_succ, i64_w, i32_w]
        rfl
      refine take_ (i := 9) (N := some 21) (v := ?_) (a' := ?_) #[true, true, true, true, true, true, true, true, true, true, true, false, false, false, false] rfl rfl (by kernel_rfl) (fun _ _ _ h => h) (Or.inl ⟨by rfl, ?_⟩) hHeld ?_ ?_
      rotate_left
      · rintro w' ⟨s0, s1⟩
        go_simp
        with_reducible rfl
      rotate_left
      · simp only [Act.put, List.setIfInBounds_toArray, List.set_cons_zero, List.set_cons_succ, i64_w, i32_w]
        rfl
      refine one_ (i := 11) (N := some 23) #[true, true, true, true, true, true, true, true, true, true, true, true, false, false, false] rfl rfl (by kernel_rfl) (by decide) (fun K hK => ?_)
      refine goes_ Try.func60 (by kernel_rfl) rfl #[.int .u8 (z : Int), .int .u8 (y : Int)] (by rfl) rfl rfl (by simp only [List.map_toArray, List.map_cons, List.map_nil]; rfl) ?_
      refine Calls.mono (HM.out _) ?_
      rintro e w2 ⟨rfl, ⟨nd, rfl⟩⟩
      refine ⟨_, rfl, ?_⟩
      refine hK.out _ _ ⟨hcell, hcell2⟩ (fun hHeld => ?_)
      clear hK K
      refine norm_ (a' := ?_) ?_ ?_
      rotate_left
      · show Act.put _ (some 23) _ = _
        simp only [Act.put, List.setIfInBounds_toArray, List.set_cons_zero, List.set_cons_succ, i64_w, i32_w]
        rfl
      refine one_ (i := 12) (N := some 24) #[true, true, true, true, true, true, true, true, true, true, true, true, true, false, false] rfl rfl (by kernel_rfl) (by decide) (fun K hK => ?_)
      refine goes_ Try.func69 (by kernel_rfl) rfl #[.int .u8 (x : Int), .int .u8 (m : Int)] (by rfl) rfl rfl (by simp only [List.map_toArray, List.map_cons, List.map_nil]; rfl) ?_
      refine Calls.mono (HA.out _) ?_
      rintro e w2 ⟨rfl, rfl⟩
      refine ⟨_, rfl, ?_⟩
      refine hK.out _ _ ⟨hcell, hcell2⟩ (fun hHeld => ?_)
      clear hK K
      refine norm_ (a' := ?_) ?_ ?_
      rotate_left
      · show Act.put _ (some 24) _ = _
        simp only [Act.put, List.setIfInBounds_toArray, List.set_cons_zero, List.set_cons_succ, i64_w, i32_w]
        rfl
      refine pure_ (i := 13) (N := some 25) (v := ?_) (a' := ?_) #[true, true, true, true, true, true, true, true, true, true, true, true, true, true, false] rfl rfl (by kernel_rfl) (fun _ _ _ h => h) (Or.inl ⟨by rfl, ?_⟩) ?_ ?_
      rotate_left
      · intro w'
        go_simp
        with_reducible rfl
      rotate_left
      · simp only [Act.put, List.setIfInBounds_toArray, List.set_cons_zero, List.set_cons_succ, i64_w, i32_w]
        rfl
      refine last_ (i := 14) (N := none) #[true, true, true, true, true, true, true, true, true, true, true, true, true, true, true] rfl rfl (by kernel_rfl) (by decide) (fun K hK => ?_)
      refine skip_ (w1 := ?_) (by rfl) rfl ?_ ?_
      rotate_left
      · go_simp
        rfl
      refine hK.out _ _ ?_
      clear hK K
      refine done_ (by kernel_rfl) ?_
      go_wp2
      go_roundw
      case rel => exact ⟨k + 1, by omega, by go_num, only_set (only_drewN hG _) _ _, HO2.out _ (HD.out.drewN _)⟩
      case measure => simp [intOf]; omega
    · obtain rfl : k = c := by omega
      go_wp2
      go_end0
      exact ⟨rfl, hG, hD.same (fun j hj => by rw [if_pos hj])⟩

/-! the reference's -/
theorem rmul_hid (k a b : Nat) (hk : 9 ≤ k) (ha : a < 256) (hb : b < 256) : Hid (∀ W, Calls Try.prog 38 #[.int .u8 a, .int .u8 b] W fun e w' => e = .returned (.int .u8 ((GfM.M a b : Nat) : Int)) ∧ Drawn0 W w') :=
  fun W => flintref5_Mul.calls k _ _ _ W (GaFacts.rmul_ok k a b hk ha hb)
set_option maxHeartbeats 2000000 in
theorem mix63 (w : World) (d o c y : Nat) (f h : Nat → Nat) (hR : RowAt w d c f) (hO : RowAt w o c h) (hne : o ≠ d) (hf : ∀ j, j < c → f j < 256) (hh : ∀ j, j < c → h j < 256) (hy : y < 256) (hc : c ≤ 1000000) :
    Calls Try.prog 66 #[.slice (some ⟨d, 0, none⟩) c c, .slice (some ⟨o, 0, none⟩) c c, .int .u8 y] w fun e w' => e = .returned (.tuple #[]) ∧ w.grownBy w' (some d) ∧ RowAt w' d c (mixf f h y) := by
  go_enter Try.func66, Try.ntmps66
  go_wp2
  go_loopw [6] (fun i wr => ∃ k : Nat, k ≤ c ∧ i = .int .i64 (k : Nat) ∧ w.grownBy wr (some d) ∧ RowAt wr d c (fun j => if j < k then mixf f h y j else f j)) (fun i _ => c - (intOf i).toNat)
  case atStart => exact ⟨0, Nat.zero_le _, rfl, World.grownBy.refl _ _, hR.same (fun j _ => by simp)⟩
  case round =>
    obtain ⟨k, hk, rfl, hG, hD⟩ := hrel
    by_cases hlt : k < c
    · have hcell := hD.cell hlt
      rw [if_neg (by omega)] at hcell
      have hfr := hD.frozen k
      have hcell2 := (hO.kept hG (by intro e; injection e with e; exact hne e)).cell hlt
      have HM := rmul_hid 9 (h k) y (by omega) (hh k hlt) hy
      have hml := GfM.M_lt (h k) y (hh k hlt)
      have hx : bits .xor .u8 (f k : Int) ((GfM.M (h k) y : Nat) : Int) = ((f k ^^^ GfM.M (h k) y : Nat) : Int) := xor_nat _ _ (hf k hlt) hml
      have hO2 : ∀ W : World, RowAt W d c (fun j => if j < k then mixf f h y j else f j) → RowAt (W.setCell ⟨d, k, none⟩ (.int .u8 ((f k ^^^ GfM.M (h k) y : Nat) : Int))) d c (fun j => if j < k + 1 then mixf f h y j else f j) := fun W hW => (hW.set_ k _).same (fun j _ => by
        by_cases e : j = k
        · subst e; simp [mixf]
        · by_cases h : j < k
          · rw [if_neg e, if_pos h, if_pos (by omega)]
          · rw [if_neg e, if_neg h, if_neg (by omega)])
      have HO2 : Hid (∀ W : World, RowAt W d c (fun j => if j < k then mixf f h y j else f j) → RowAt (W.setCell ⟨d, k, none⟩ (.int .u8 ((f k ^^^ GfM.M (h k) y : Nat) : Int))) d c (fun j => if j < k + 1 then mixf f h y j else f j)) := hO2
      have HD : Hid (RowAt wr d c (fun j => if j < k then mixf f h y j else f j)) := hD
      have q1 : (0 : Int) ≤ (k : Int) := by omega
      have q2 : (k : Int) < (c : Int) := by omega
      clear hO2 hD hml
      generalize f k ^^^ GfM.M (h k) y = s at hx HO2
      generalize GfM.M (h k) y = m at *
      generalize f k = x at *
      generalize h k = z at *
      go_wp2
      refine start_ (n := 15) (S := fun w' => w'.cell? ⟨d, k, none⟩ = some (.int .u8 (x : Int)) ∧ w'.cell? ⟨o, k, none⟩ = some (.int .u8 (z : Int))) (ds := [14]) #[false, false, false, false, false, false, false, false, false, false, false, false, false, false, false] (by kernel_rfl) rfl rfl ⟨hcell, hcell2⟩ (fun hHeld => ?_)
      refine pure_ (i := 0) (N := some 13) (v := ?_) (a' := ?_) #[true, false, false, false, false, false, false, false, false, false, false, false, false, false, false] rfl rfl (by kernel_rfl) (fun _ _ _ h => h) (Or.inl ⟨by rfl, ?_⟩) ?_ ?_
      rotate_left
      · intro w'
        go_simp
        with_reducible rfl
      rotate_left
      · simp only [Act.put, List.setIfInBounds_toArray, List.set_cons_zero, List.set_cons_succ, i64_w, i32_w]
        rfl
      refine pure_ (i := 1) (N := some 14) (v := ?_) (a' := ?_) #[true, true, false, false, false, false, false, false, false, false, false, false, false, false, false] rfl rfl (by kernel_rfl) (fun _ _ _ h => h) (Or.inl ⟨by rfl, ?_⟩) ?_ ?_
      rotate_left
      · intro w'
        go_simp
        with_reducible rfl
      rotate_left
      · simp only [Act.put, List.setIfInBounds_toArray, List.set_cons_zero, List.set_cons_succ, i64_w, i32_w]
        rfl
      refine pure_ (i := 2) (N := some 15) (v := ?_) (a' := ?_) #[true, true, true, false, false, false, false, false, false, false, false, false, false, false, false] rfl rfl (by kernel_rfl) (fun _ _ _ h => h) (Or.inl ⟨by rfl, ?_⟩) ?_ ?_
      rotate_left
      · intro w'
        go_simp
        with_reducible rfl
      rotate_left
      · simp only [Act.put, List.setIfInBounds_toArray, List.set_cons_zero, List.set_cons_succ, i64_w, i32_w]
        rfl
      refine pure_ (i := 3) (N := some 16) (v := ?_) (a' := ?_) #[true, true, true, true, false, false, false, false, false, false, false, false, false, false, false] rfl rfl (by kernel_rfl) (fun _ _ _ h => h) (Or.inl ⟨by rfl, ?_⟩) ?_ ?_
      rotate_left
      · intro w'
        go_simp
        with_reducible rfl
      rotate_left
      · simp only [Act.put, List.setIfInBounds_toArray, List.set_cons_zero, List.set_cons_succ, i64_w, i32_w]
        rfl
      refine pure_ (i := 4) (N := some 17) (v := ?_) (a' := ?_) #[true, true, true, true, true, false, false, false, false, false, false, false, false, false, false] rfl rfl (by kernel_rfl) (fun _ _ _ h => h) (Or.inl ⟨by rfl, ?_⟩) ?_ ?_
      rotate_left
      · intro w'
        go_simp
        with_reducible rfl
      rotate_left
      · simp only [Act.put, List.setIfInBounds_toArray, List.set_cons_zero, List.set_cons_succ, i64_w, i32_w]
        rfl
      refine pure_ (i := 6) (N := some 19) (v := ?_) (a' := ?_) #[true, true, true, true, true, false, true, false, false, false, false, false, false, false, false] rfl rfl (by kernel_rfl) (fun _ _ _ h => h) (Or.inl ⟨by rfl, ?_⟩) ?_ ?_
      rotate_left
      · intro w'
        go_simp
        with_reducible rfl
      rotate_left
      · simp only [Act.put, List.setIfInBounds_toArray, List.set_cons_zero, List.set_cons_succ, i64_w, i32_w]
        rfl
      refine pure_ (i := 7) (N := some 20) (v := ?_) (a' := ?_) #[true, true, true, true, true, false, true, true, false, false, false, false, false, false, false] rfl rfl (by kernel_rfl) (fun _ _ _ h => h) (Or.inl ⟨by rfl, ?_⟩) ?_ ?_
      rotate_left
      · intro w'
        go_simp
        with_reducible rfl
      rotate_left
      · simp only [Act.put, List.setIfInBounds_toArray, List.set_cons_zero, List.set_cons_succ, i64_w, i32_w]
        rfl
      refine pure_ (i := 8) (N := some 21) (v := ?_) (a' := ?_) #[true, true, true, true, true, false, true, true, true, false, false, false, false, false, false] rfl rfl (by kernel_rfl) (fun _ _ _ h => h) (Or.inl ⟨by rfl, ?_⟩) ?_ ?_
      rotate_left
      · intro w'
        go_simp
        with_reducible rfl
      rotate_left
      · simp only [Act.put, List.setIfInBounds_toArray, List.set_cons_zero, List.set_cons_succ, i64_w, i32_w]
        rfl
      refine pure_ (i := 10) (N := some 23) (v := ?_) (a' := ?_) #[true, true, true, true, true, false, true, true, true, false, true, false, false, false, false] rfl rfl (by kernel_rfl) (fun _ _ _ h => h) (Or.inl ⟨by rfl, ?_⟩) ?_ ?_
      rotate_left
      · intro w'
        go_simp
        with_reducible rfl
      rotate_left
      · simp only [Act.put, List.setIfInBounds_toArray, List.set_cons_zero, List.set_cons_succ, i64_w, i32_w]
        rfl
      refine take_ (i := 5) (N := some 18) (v := ?_) (a' := ?_) #[true, true, true, true, true, true, true, true, true, false, true, false, false, false, false] rfl rfl (by kernel_rfl) (fun _ _ _ h => h) (Or.inl ⟨by rfl, ?_⟩) hHeld ?_ ?_
      rotate_left
      · rintro w' ⟨s0, s1⟩
        go_simp
        with_reducible rfl
      rotate_left
      · simp only [Act.put, List.setIfInBounds_toArray, List.set_cons_zero, List.set_cons_succ, i64_w, i32_w]
        rfl
      refine take_ (i := 9) (N := some 22) (v := ?_) (a' := ?_) #[true, true, true, true, true, true, true, true, true, true, true, false, false, false, false] rfl rfl (by kernel_rfl) (fun _ _ _ h => h) (Or.inl ⟨by rfl, ?_⟩) hHeld ?_ ?_
      rotate_left
      · rintro w' ⟨s0, s1⟩
        go_simp
        with_reducible rfl
      rotate_left
      · simp only [Act.put, List.setIfInBounds_toArray, List.set_cons_zero, List.set_cons_succ, i64_w, i32_w]
        rfl
      refine one_ (i := 11) (N := some 24) #[true, true, true, true, true, true, true, true, true, true, true, true, false, false, false] rfl rfl (by kernel_rfl) (by decide) (fun K hK => ?_)
      refine goes_ Try.func38 (by kernel_rfl) rfl #[.int .u8 (z : Int), .int .u8 (y : Int)] (by rfl) rfl rfl (by simp only [List.map_toArray, List.map_cons, List.map_nil]; rfl) ?_
      refine Calls.mono (HM.out _) ?_
      rintro e w2 ⟨rfl, ⟨nd, rfl⟩⟩
      refine ⟨_, rfl, ?_⟩
      refine hK.out _ _ ⟨hcell, hcell2⟩ (fun hHeld => ?_)
      clear hK K
      refine norm_ (a' := ?_) ?_ ?_
      rotate_left
      · show Act.put _ (some 24) _ = _
        simp only [Act.put, List.setIfInBounds_toArray, List.set_cons_zero, List.set_cons_succ, i64_w, i32_w]
        rfl
      refine pure_ (i := 12) (N := some 25) (v := ?_) (a' := ?_) #[true, true, true, true, true, true, true, true, true, true, true, true, true, false, false] rfl rfl (by kernel_rfl) (fun _ _ _ h => h) (Or.inl ⟨by rfl, ?_⟩) ?_ ?_
      rotate_left
      · intro w'
        go_simp
        with_reducible rfl
      rotate_left
      · simp only [Act.put, List.setIfInBounds_toArray, List.set_cons_zero, List.set_cons_succ, i64_w, i32_w]
        rfl
      refine pure_ (i := 13) (N := some 26) (v := ?_) (a' := ?_) #[true, true, true, true, true, true, true, true, true, true, true, true, true, true, false] rfl rfl (by kernel_rfl) (fun _ _ _ h => h) (Or.inl ⟨by rfl, ?_⟩) ?_ ?_
      rotate_left
      · intro w'
        go_simp
        with_reducible rfl
      rotate_left
      · simp only [Act.put, List.setIfInBounds_toArray, List.set_cons_zero, List.set_cons_succ, i64_w, i32_w]
        rfl
      refine last_ (i := 14) (N := none) #[true, true, true, true, true, true, true, true, true, true, true, true, true, true, true] rfl rfl (by kernel_rfl) (by decide) (fun K hK => ?_)
      refine skip_ (w1 := ?_) (by rfl) rfl ?_ ?_
      rotate_left
      · go_simp
        rfl
      refine hK.out _ _ ?_
      clear hK K
      refine done_ (by kernel_rfl) ?_
      go_wp2
      go_roundw
      case rel => exact ⟨k + 1, by omega, by go_num, only_set (only_drewN hG _) _ _, HO2.out _ (HD.out.drewN _)⟩
      case measure => simp [intOf]; omega
    · obtain rfl : k = c := by omega
      go_wp2
      go_end0
      exact ⟨rfl, hG, hD.same (fun j hj => by rw [if_pos hj])⟩
#print axioms mix63
end Go.Proofs.Ytjolnjckgoilpaa.Gf
