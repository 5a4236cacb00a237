/- Several texts of this session laid together: GfRef, GfRefS, GfSt2. -/
import Derived.Test.YtjolnjckgoilpaaMSt
import Derived.Test.YtjolnjckgoilpaaGbFacts
section
/-
  Rows and square matrices whose arrays may be longer than they are (built by append): the reference's scale and mix over them.
-/
set_option linter.unusedVariables false
set_option linter.unusedSimpArgs false
namespace Go.Proofs.Ytjolnjckgoilpaa.Gf
open Go.RowKit Go.Proofs.YtjolnjckgoilpaaW.PrintWords Go.Proofs.YtjolnjckgoilpaaW.PrintLast Go.Proofs.Ytjolnjckgoilpaa.PRa

/-- Block d, of s cells, begins with a row of bytes. -/
def RowG (w : World) (d c s : Nat) (f : Nat → Nat) : Prop := ∃ cs : Array Value, w.heap[d]? = some (.cells cs 5 (0, 0)) ∧ cs.size = s ∧ ∀ j, j < c → cs[j]? = some (.int .u8 ((f j : Nat) : Int))
theorem RowG.lt {w : World} {d c s : Nat} {f : Nat → Nat} (h : RowG w d c s f) : d < w.heap.size := by
  obtain ⟨cs, h1, _⟩ := h
  exact heap_lt h1
theorem RowG.cell {w : World} {d c s j : Nat} {f : Nat → Nat} (h : RowG w d c s f) (hj : j < c) : w.cell? ⟨d, j, none⟩ = some (.int .u8 ((f j : Nat) : Int)) := by
  obtain ⟨cs, h1, _, h2⟩ := h
  rw [cell_of_row w d j _ 5 (0, 0) h1, h2 j hj]
theorem RowG.frozen {w : World} {d c s : Nat} {f : Nat → Nat} (h : RowG w d c s f) (j : Nat) : w.frozen? ⟨d, j, none⟩ = false := by
  obtain ⟨cs, h1, h2⟩ := h
  simp [World.frozen?, h1]
theorem RowG.set_ {w : World} {d c s : Nat} {f : Nat → Nat} (h : RowG w d c s f) (j y : Nat) : RowG (w.setCell ⟨d, j, none⟩ (.int .u8 ((y : Nat) : Int))) d c s (fun q => if q = j then y else f q) := by
  obtain ⟨cs, h1, h3, h2⟩ := h
  refine ⟨_, blkset h1 j _, by simpa using h3, fun q hq => ?_⟩
  rw [Array.getElem?_setIfInBounds]
  have := h2 q hq
  have hlt : q < cs.size := (Array.getElem?_eq_some_iff.1 this).1
  by_cases e : j = q
  · subst e; simp [hlt]
  · rw [if_neg e, this]
    simp only [if_neg (Ne.symm e)]
theorem RowG.far {w : World} {d c s : Nat} {f : Nat → Nat} (h : RowG w d c s f) {p : Addr} (hp : d ≠ p.block) (u : Value) : RowG (w.setCell p u) d c s f := by
  obtain ⟨cs, h1, h2⟩ := h
  exact ⟨cs, blkfar h1 hp u, h2⟩
theorem RowG.same {w : World} {d c s : Nat} {f g : Nat → Nat} (h : RowG w d c s f) (e : ∀ j, j < c → f j = g j) : RowG w d c s g := by
  obtain ⟨cs, h1, h3, h2⟩ := h
  exact ⟨cs, h1, h3, fun j hj => by rw [h2 j hj, e j hj]⟩
theorem RowG.drewN {w : World} {d c s : Nat} {f : Nat → Nat} (h : RowG w d c s f) (n : Nat) : RowG (w.drewN n) d c s f := h
theorem RowG.drew {w : World} {d c s : Nat} {f : Nat → Nat} (h : RowG w d c s f) : RowG w.drew d c s f := h
theorem RowG.kept {w w' : World} {d c s : Nat} {f : Nat → Nat} {row : Option Nat} (h : RowG w d c s f) (hg : w.grownBy w' row) (hne : some d ≠ row) : RowG w' d c s f := by
  obtain ⟨cs, h1, h2⟩ := h
  exact ⟨cs, (hg.block d (heap_lt h1) hne).trans h1, h2⟩
theorem RowG.below {w w' : World} {d c s : Nat} {f : Nat → Nat} (h : RowG w d c s f) (hb : Below w.heap.size w w') : RowG w' d c s f := by
  obtain ⟨cs, h1, h2⟩ := h
  exact ⟨cs, (hb.block d (heap_lt h1)).trans h1, h2⟩

set_option maxHeartbeats 1000000 in
theorem gscale62 (w : World) (d c y k0 : Nat) (f : Nat → Nat) (hR : RowG w d c k0 f) (hf : ∀ j, j < c → f j < 256) (hy : y < 256) (hc : c ≤ 1000000) :
    Calls Try.prog 65 #[.slice (some ⟨d, 0, none⟩) c k0, .int .u8 y] w fun e w' => e = .returned (.tuple #[]) ∧ w.grownBy w' (some d) ∧ RowG w' d c k0 (fun j => GfM.M (f j) y) := by
  go_enter Try.func65, Try.ntmps65
  go_wp2
  go_loopw [4] (fun i wr => ∃ k : Nat, k ≤ c ∧ i = .int .i64 (k : Nat) ∧ w.grownBy wr (some d) ∧ RowG wr d c k0 (fun j => if j < k then GfM.M (f j) y else f j)) (fun i _ => c - (intOf i).toNat)
  case atStart => exact ⟨0, Nat.zero_le _, rfl, World.grownBy.refl _ _, hR.same (fun j _ => by simp)⟩
  case round =>
    obtain ⟨k, hk, rfl, hG, hO⟩ := hrel
    by_cases hlt : k < c
    · have hcell := hO.cell hlt
      rw [if_neg (by omega)] at hcell
      have hfr := hO.frozen k
      have HM := rmul_hid 9 (f k) y (by omega) (hf k hlt) hy
      have hO2 : ∀ n, RowG ((wr.drewN n).setCell ⟨d, k, none⟩ (.int .u8 ((GfM.M (f k) y : Nat) : Int))) d c k0 (fun j => if j < k + 1 then GfM.M (f j) y else f j) := fun n => ((hO.drewN n).set_ k _).same (fun j _ => by
        by_cases e : j = k
        · subst e; simp
        · by_cases h : j < k
          · rw [if_neg e, if_pos h, if_pos (by omega)]
          · rw [if_neg e, if_neg h, if_neg (by omega)])
      have HO2 : Hid (∀ n, RowG ((wr.drewN n).setCell ⟨d, k, none⟩ (.int .u8 ((GfM.M (f k) y : Nat) : Int))) d c k0 (fun j => if j < k + 1 then GfM.M (f j) y else f j)) := hO2
      clear hO2 hO
      generalize GfM.M (f k) y = m at HM HO2
      generalize f k = x at *
      go_wp2_with (go_at_call 38; refine Calls.mono (HM.out _) ?_; rintro e w2 ⟨rfl, ⟨nd, rfl⟩⟩)
      go_roundw
      case rel => exact ⟨k + 1, by omega, by go_num, only_set (only_drewN hG _) _ _, HO2.out _⟩
      case measure => simp [intOf]; omega
    · obtain rfl : k = c := by omega
      go_wp2
      go_end0
      exact ⟨rfl, hG, hO.same (fun j hj => by rw [if_pos hj])⟩

set_option maxHeartbeats 2000000 in
theorem gmix63 (w : World) (d o c y k0 k1 : Nat) (f h : Nat → Nat) (hR : RowG w d c k0 f) (hO : RowG w o c k1 h) (hne : o ≠ d) (hf : ∀ j, j < c → f j < 256) (hh : ∀ j, j < c → h j < 256) (hy : y < 256) (hc : c ≤ 1000000) :
    Calls Try.prog 66 #[.slice (some ⟨d, 0, none⟩) c k0, .slice (some ⟨o, 0, none⟩) c k1, .int .u8 y] w fun e w' => e = .returned (.tuple #[]) ∧ w.grownBy w' (some d) ∧ RowG w' d c k0 (mixf f h y) := by
  go_enter Try.func66, Try.ntmps66
  go_wp2
  go_loopw [6] (fun i wr => ∃ k : Nat, k ≤ c ∧ i = .int .i64 (k : Nat) ∧ w.grownBy wr (some d) ∧ RowG wr d c k0 (fun j => if j < k then mixf f h y j else f j)) (fun i _ => c - (intOf i).toNat)
  case atStart => exact ⟨0, Nat.zero_le _, rfl, World.grownBy.refl _ _, hR.same (fun j _ => by simp)⟩
  case round =>
    obtain ⟨k, hk, rfl, hG, hD⟩ := hrel
    by_cases hlt : k < c
    · have hcell := hD.cell hlt
      rw [if_neg (by omega)] at hcell
      have hfr := hD.frozen k
      have hcell2 := (hO.kept hG (by intro e; injection e with e; exact hne e)).cell hlt
      have HM := rmul_hid 9 (h k) y (by omega) (hh k hlt) hy
      have hml := GfM.M_lt (h k) y (hh k hlt)
      have hx : bits .xor .u8 (f k : Int) ((GfM.M (h k) y : Nat) : Int) = ((f k ^^^ GfM.M (h k) y : Nat) : Int) := xor_nat _ _ (hf k hlt) hml
      have hO2 : ∀ W : World, RowG W d c k0 (fun j => if j < k then mixf f h y j else f j) → RowG (W.setCell ⟨d, k, none⟩ (.int .u8 ((f k ^^^ GfM.M (h k) y : Nat) : Int))) d c k0 (fun j => if j < k + 1 then mixf f h y j else f j) := fun W hW => (hW.set_ k _).same (fun j _ => by
        by_cases e : j = k
        · subst e; simp [mixf]
        · by_cases h : j < k
          · rw [if_neg e, if_pos h, if_pos (by omega)]
          · rw [if_neg e, if_neg h, if_neg (by omega)])
      have HO2 : Hid (∀ W : World, RowG W d c k0 (fun j => if j < k then mixf f h y j else f j) → RowG (W.setCell ⟨d, k, none⟩ (.int .u8 ((f k ^^^ GfM.M (h k) y : Nat) : Int))) d c k0 (fun j => if j < k + 1 then mixf f h y j else f j)) := hO2
      have HD : Hid (RowG wr d c k0 (fun j => if j < k then mixf f h y j else f j)) := hD
      have q1 : (0 : Int) ≤ (k : Int) := by omega
      have q2 : (k : Int) < (c : Int) := by omega
      clear hO2 hD hml
      generalize f k ^^^ GfM.M (h k) y = s at hx HO2
      generalize GfM.M (h k) y = m at *
      generalize f k = x at *
      generalize h k = z at *
      go_wp2
      refine start_ (n := 15) (S := fun w' => w'.cell? ⟨d, k, none⟩ = some (.int .u8 (x : Int)) ∧ w'.cell? ⟨o, k, none⟩ = some (.int .u8 (z : Int))) (ds := [14]) #[false, false, false, false, false, false, false, false, false, false, false, false, false, false, false] (by kernel_rfl) rfl rfl ⟨hcell, hcell2⟩ (fun hHeld => ?_)
      refine pure_ (i := 0) (N := some 13) (v := ?_) (a' := ?_) #[true, false, false, false, false, false, false, false, false, false, false, false, false, false, false] rfl rfl (by kernel_rfl) (fun _ _ _ h => h) (Or.inl ⟨by rfl, ?_⟩) ?_ ?_
      rotate_left
      · intro w'
        go_simp
        with_reducible rfl
      rotate_left
      · simp only [Act.put, List.setIfInBounds_toArray, List.set_cons_zero, List.set_cons_succ, i64_w, i32_w]
        rfl
      refine pure_ (i := 1) (N := some 14) (v := ?_) (a' := ?_) #[true, true, false, false, false, false, false, false, false, false, false, false, false, false, false] rfl rfl (by kernel_rfl) (fun _ _ _ h => h) (Or.inl ⟨by rfl, ?_⟩) ?_ ?_
      rotate_left
      · intro w'
        go_simp
        with_reducible rfl
      rotate_left
      · simp only [Act.put, List.setIfInBounds_toArray, List.set_cons_zero, List.set_cons_succ, i64_w, i32_w]
        rfl
      refine pure_ (i := 2) (N := some 15) (v := ?_) (a' := ?_) #[true, true, true, false, false, false, false, false, false, false, false, false, false, false, false] rfl rfl (by kernel_rfl) (fun _ _ _ h => h) (Or.inl ⟨by rfl, ?_⟩) ?_ ?_
      rotate_left
      · intro w'
        go_simp
        with_reducible rfl
      rotate_left
      · simp only [Act.put, List.setIfInBounds_toArray, List.set_cons_zero, List.set_cons_succ, i64_w, i32_w]
        rfl
      refine pure_ (i := 3) (N := some 16) (v := ?_) (a' := ?_) #[true, true, true, true, false, false, false, false, false, false, false, false, false, false, false] rfl rfl (by kernel_rfl) (fun _ _ _ h => h) (Or.inl ⟨by rfl, ?_⟩) ?_ ?_
      rotate_left
      · intro w'
        go_simp
        with_reducible rfl
      rotate_left
      · simp only [Act.put, List.setIfInBounds_toArray, List.set_cons_zero, List.set_cons_succ, i64_w, i32_w]
        rfl
      refine pure_ (i := 4) (N := some 17) (v := ?_) (a' := ?_) #[true, true, true, true, true, false, false, false, false, false, false, false, false, false, false] rfl rfl (by kernel_rfl) (fun _ _ _ h => h) (Or.inl ⟨by rfl, ?_⟩) ?_ ?_
      rotate_left
      · intro w'
        go_simp
        with_reducible rfl
      rotate_left
      · simp only [Act.put, List.setIfInBounds_toArray, List.set_cons_zero, List.set_cons_succ, i64_w, i32_w]
        rfl
      refine pure_ (i := 6) (N := some 19) (v := ?_) (a' := ?_) #[true, true, true, true, true, false, true, false, false, false, false, false, false, false, false] rfl rfl (by kernel_rfl) (fun _ _ _ h => h) (Or.inl ⟨by rfl, ?_⟩) ?_ ?_
      rotate_left
      · intro w'
        go_simp
        with_reducible rfl
      rotate_left
      · simp only [Act.put, List.setIfInBounds_toArray, List.set_cons_zero, List.set_cons_succ, i64_w, i32_w]
        rfl
      refine pure_ (i := 7) (N := some 20) (v := ?_) (a' := ?_) #[true, true, true, true, true, false, true, true, false, false, false, false, false, false, false] rfl rfl (by kernel_rfl) (fun _ _ _ h => h) (Or.inl ⟨by rfl, ?_⟩) ?_ ?_
      rotate_left
      · intro w'
        go_simp
        with_reducible rfl
      rotate_left
      · simp only [Act.put, List.setIfInBounds_toArray, List.set_cons_zero, List.set_cons_succ, i64_w, i32_w]
        rfl
      refine pure_ (i := 8) (N := some 21) (v := ?_) (a' := ?_) #[true, true, true, true, true, false, true, true, true, false, false, false, false, false, false] rfl rfl (by kernel_rfl) (fun _ _ _ h => h) (Or.inl ⟨by rfl, ?_⟩) ?_ ?_
      rotate_left
      · intro w'
        go_simp
        with_reducible rfl
      rotate_left
      · simp only [Act.put, List.setIfInBounds_toArray, List.set_cons_zero, List.set_cons_succ, i64_w, i32_w]
        rfl
      refine pure_ (i := 10) (N := some 23) (v := ?_) (a' := ?_) #[true, true, true, true, true, false, true, true, true, false, true, false, false, false, false] rfl rfl (by kernel_rfl) (fun _ _ _ h => h) (Or.inl ⟨by rfl, ?_⟩) ?_ ?_
      rotate_left
      · intro w'
        go_simp
        with_reducible rfl
      rotate_left
      · simp only [Act.put, List.setIfInBounds_toArray, List.set_cons_zero, List.set_cons_succ, i64_w, i32_w]
        rfl
      refine take_ (i := 5) (N := some 18) (v := ?_) (a' := ?_) #[true, true, true, true, true, true, true, true, true, false, true, false, false, false, false] rfl rfl (by kernel_rfl) (fun _ _ _ h => h) (Or.inl ⟨by rfl, ?_⟩) hHeld ?_ ?_
      rotate_left
      · rintro w' ⟨s0, s1⟩
        go_simp
        with_reducible rfl
      rotate_left
      · simp only [Act.put, List.setIfInBounds_toArray, List.set_cons_zero, List.set_cons_succ, i64_w, i32_w]
        rfl
      refine take_ (i := 9) (N := some 22) (v := ?_) (a' := ?_) #[true, true, true, true, true, true, true, true, true, true, true, false, false, false, false] rfl rfl (by kernel_rfl) (fun _ _ _ h => h) (Or.inl ⟨by rfl, ?_⟩) hHeld ?_ ?_
      rotate_left
      · rintro w' ⟨s0, s1⟩
        go_simp
        with_reducible rfl
      rotate_left
      · simp only [Act.put, List.setIfInBounds_toArray, List.set_cons_zero, List.set_cons_succ, i64_w, i32_w]
        rfl
      refine one_ (i := 11) (N := some 24) #[true, true, true, true, true, true, true, true, true, true, true, true, false, false, false] rfl rfl (by kernel_rfl) (by decide) (fun K hK => ?_)
      refine goes_ Try.func38 (by kernel_rfl) rfl #[.int .u8 (z : Int), .int .u8 (y : Int)] (by rfl) rfl rfl (by simp only [List.map_toArray, List.map_cons, List.map_nil]; rfl) ?_
      refine Calls.mono (HM.out _) ?_
      rintro e w2 ⟨rfl, ⟨nd, rfl⟩⟩
      refine ⟨_, rfl, ?_⟩
      refine hK.out _ _ ⟨hcell, hcell2⟩ (fun hHeld => ?_)
      clear hK K
      refine norm_ (a' := ?_) ?_ ?_
      rotate_left
      · show Act.put _ (some 24) _ = _
        simp only [Act.put, List.setIfInBounds_toArray, List.set_cons_zero, List.set_cons_succ, i64_w, i32_w]
        rfl
      refine pure_ (i := 12) (N := some 25) (v := ?_) (a' := ?_) #[true, true, true, true, true, true, true, true, true, true, true, true, true, false, false] rfl rfl (by kernel_rfl) (fun _ _ _ h => h) (Or.inl ⟨by rfl, ?_⟩) ?_ ?_
      rotate_left
      · intro w'
        go_simp
        with_reducible rfl
      rotate_left
      · simp only [Act.put, List.setIfInBounds_toArray, List.set_cons_zero, List.set_cons_succ, i64_w, i32_w]
        rfl
      refine pure_ (i := 13) (N := some 26) (v := ?_) (a' := ?_) #[true, true, true, true, true, true, true, true, true, true, true, true, true, true, false] rfl rfl (by kernel_rfl) (fun _ _ _ h => h) (Or.inl ⟨by rfl, ?_⟩) ?_ ?_
      rotate_left
      · intro w'
        go_simp
        with_reducible rfl
      rotate_left
      · simp only [Act.put, List.setIfInBounds_toArray, List.set_cons_zero, List.set_cons_succ, i64_w, i32_w]
        rfl
      refine last_ (i := 14) (N := none) #[true, true, true, true, true, true, true, true, true, true, true, true, true, true, true] rfl rfl (by kernel_rfl) (by decide) (fun K hK => ?_)
      refine skip_ (w1 := ?_) (by rfl) rfl ?_ ?_
      rotate_left
      · go_simp
        rfl
      refine hK.out _ _ ?_
      clear hK K
      refine done_ (by kernel_rfl) ?_
      go_wp2
      go_roundw
      case rel => exact ⟨k + 1, by omega, by go_num, only_set (only_drewN hG _) _ _, HO2.out _ (HD.out.drewN _)⟩
      case measure => simp [intOf]; omega
    · obtain rfl : k = c := by omega
      go_wp2
      go_end0
      exact ⟨rfl, hG, hD.same (fun j hj => by rw [if_pos hj])⟩
/-- A square matrix whose arrays may be longer. -/
structure GridG (w : World) (g gc n : Nat) (b cp : Nat → Nat) (f : Nat → Nat → Nat) : Prop where
  top : ∃ cs : Array Value, w.heap[g]? = some (.cells cs 25 (0, 0)) ∧ cs.size = gc ∧ ∀ k, k < n → cs[k]? = some (.slice (some ⟨b k, 0, none⟩) n (cp k))
  row : ∀ j, j < n → RowG w (b j) n (cp j) (f j)
  inj : ∀ i j, i < n → j < n → b i = b j → i = j
section
variable {w w' : World} {g gc n : Nat} {b cp : Nat → Nat} {f : Nat → Nat → Nat}
theorem GridG.cell {k : Nat} (h : GridG w g gc n b cp f) (hk : k < n) : w.cell? ⟨g, k, none⟩ = some (.slice (some ⟨b k, 0, none⟩) n (cp k)) := by
  obtain ⟨cs, h1, _, h2⟩ := h.top
  rw [cell_of_row w g k _ 25 (0, 0) h1, h2 k hk]
theorem GridG.frozen (h : GridG w g gc n b cp f) (k : Nat) : w.frozen? ⟨g, k, none⟩ = false := by
  obtain ⟨cs, h1, _⟩ := h.top
  simp [World.frozen?, h1]
theorem GridG.ne (h : GridG w g gc n b cp f) {j : Nat} (hj : j < n) : b j ≠ g := by
  obtain ⟨cs, h1, _⟩ := h.top
  obtain ⟨cs2, h2, _⟩ := h.row j hj
  exact type_ne h2 h1 (by decide)
theorem GridG.kept {x : Nat} (h : GridG w g gc n b cp f) (hg : w.grownBy w' (some x)) (h1 : g ≠ x) (h2 : ∀ j, j < n → b j ≠ x) : GridG w' g gc n b cp f := by
  obtain ⟨cs, t1, t2⟩ := h.top
  exact ⟨⟨cs, (hg.block g (heap_lt t1) (by intro e; injection e with e; exact h1 e)).trans t1, t2⟩, fun j hj => (h.row j hj).kept hg (by intro e; injection e with e; exact h2 j hj e), h.inj⟩
theorem GridG.below (h : GridG w g gc n b cp f) (hb : Below w.heap.size w w') : GridG w' g gc n b cp f := by
  obtain ⟨cs, t1, t2⟩ := h.top
  exact ⟨⟨cs, (hb.block g (heap_lt t1)).trans t1, t2⟩, fun j hj => (h.row j hj).below hb, h.inj⟩
theorem GridG.rowset {k : Nat} {r : Nat → Nat} (h : GridG w g gc n b cp f) (hk : k < n) (hg : w.grownBy w' (some (b k))) (hr : RowG w' (b k) n (cp k) r) : GridG w' g gc n b cp (upd f k r) := by
  obtain ⟨cs, t1, t2⟩ := h.top
  refine ⟨⟨cs, (hg.block g (heap_lt t1) (by intro e; injection e with e; exact h.ne hk e.symm)).trans t1, t2⟩, fun j hj => ?_, h.inj⟩
  unfold upd
  by_cases e : j = k
  · subst e; simp only [if_true]; exact hr
  · simp only [if_neg e]
    exact (h.row j hj).kept hg (by intro e2; injection e2 with e2; exact e (h.inj j k hj hk e2))
theorem GridG.swap {i j : Nat} (h : GridG w g gc n b cp f) (hi : i < n) (hj : j < n) :
    GridG ((w.setCell ⟨g, i, none⟩ (.slice (some ⟨b j, 0, none⟩) n (cp j))).setCell ⟨g, j, none⟩ (.slice (some ⟨b i, 0, none⟩) n (cp i))) g gc n (swp b i j) (swp cp i j) (swp f i j) := by
  obtain ⟨cs, t1, t3, t2⟩ := h.top
  refine ⟨⟨_, blkset (blkset t1 i _) j _, by simpa using t3, fun q hq => ?_⟩, fun q hq => ?_, fun p q hp hq e => ?_⟩
  · have hlt : ∀ k, k < n → k < cs.size := fun k hk => (Array.getElem?_eq_some_iff.1 (t2 k hk)).1
    rw [Array.getElem?_setIfInBounds, Array.getElem?_setIfInBounds]
    have s0 := hlt q hq
    have s1 := hlt i hi
    have s2 := hlt j hj
    unfold swp
    by_cases e1 : q = j
    · subst e1
      by_cases e2 : q = i
      · subst e2; simp [s0]
      · simp [s0, e2]
    · by_cases e2 : q = i
      · subst e2; simp [Ne.symm e1, s0]
      · simp [Ne.symm e1, Ne.symm e2, e1, e2, t2 q hq]
  · have hr : ∀ p, p < n → RowG ((w.setCell ⟨g, i, none⟩ (.slice (some ⟨b j, 0, none⟩) n (cp j))).setCell ⟨g, j, none⟩ (.slice (some ⟨b i, 0, none⟩) n (cp i))) (b p) n (cp p) (f p) := fun p hp => ((h.row p hp).far (h.ne hp) _).far (h.ne hp) _
    rw [show swp f i j q = f (sw i j q) from swp_sw f i j q, swp_sw b, swp_sw cp]
    exact hr _ (sw_lt hi hj hq)
  · rw [swp_sw, swp_sw] at e
    have := h.inj _ _ (sw_lt hi hj hp) (sw_lt hi hj hq) e
    rw [← sw_sw i j p, this, sw_sw]
end
end Go.Proofs.Ytjolnjckgoilpaa.Gf
end

section
/-
  Square matrices that the call owns (as the print's contracts tell them) are grids, and back.
-/
set_option linter.unusedVariables false
set_option linter.unusedSimpArgs false
namespace Go.Proofs.Ytjolnjckgoilpaa.Gf
open Go.RowKit Go.Proofs.YtjolnjckgoilpaaW.PrintWords Go.Proofs.YtjolnjckgoilpaaW.PrintLast Go.Proofs.Ytjolnjckgoilpaa.PRa

theorem toArr {cs : Array Value} {xs : List Value} {m : Nat} (h : cs.toList.take m = xs) {k : Nat} (hk : k < m) {v : Value} (hv : xs[k]? = some v) : cs[k]? = some v := by
  rw [← h, List.getElem?_take_of_lt hk] at hv
  simpa using hv
theorem grid_of_S {w : World} {base n : Nat} {ok : Nat → Prop} {v : Value} {f : Nat → Nat → Nat} (hn : 1 ≤ n) (h : Kd.S KR 25 w base ok v (matrix n n fun i j => ((f i j : Nat) : Int))) :
    ∃ g gc b cp, v = .slice (some ⟨g, 0, none⟩) n gc ∧ n ≤ gc ∧ gc ≤ maxLen ∧ GridG w g gc n b cp f ∧ base ≤ g ∧ (∀ j, j < n → base ≤ b j) ∧ ∀ j, j < n → n ≤ cp j ∧ cp j ≤ maxLen := by
  obtain ⟨π, h0, inner, ho, hr⟩ := h
  have hlen : (matrix n n fun i j => ((f i j : Nat) : Int)).zipIdx.length = n := by simp [matrix]
  rw [hlen] at ho
  obtain ⟨hil, ho⟩ := ho
  rcases ho with ⟨_, h1⟩ | ⟨g, gc, cur, rfl, hbg, hheap, hle, hmx, hsz, htk⟩
  · omega
  have hsz1 : (Kd.tag π KR).sz = 1 := rfl
  rw [hsz1, Nat.mul_one] at hil htk
  have each : ∀ j, j < n → ∃ bj cj curj, inner[j]? = some (.slice (some ⟨bj, 0, none⟩) n cj) ∧ base ≤ bj ∧ π bj = j ∧ n ≤ cj ∧ cj ≤ maxLen ∧ w.heap[bj]? = some (.cells curj 5 (0, 0)) ∧ curj.size = cj ∧ curj.toList.take n = encs (Value.int .u8) ((List.range n).map fun q => ((f j q : Nat) : Int)) := by
    intro j hj
    have hz : (matrix n n fun i j => ((f i j : Nat) : Int)).zipIdx[j]? = some ((List.range n).map (fun q => ((f j q : Nat) : Int)), j) := by
      rw [List.getElem?_zipIdx]
      simp [matrix, hj]
    obtain ⟨u, hu, hR⟩ := hr.2 j _ hz
    rw [hsz1] at hu
    have hiu : inner[j]? = some u := by
      have e : ((inner.drop (j * 1)).take 1)[0]? = some u := by rw [hu]; rfl
      rw [List.getElem?_take_of_lt (by omega), List.getElem?_drop] at e
      simpa using e
    have hown := Kd.own_of_R hR
    obtain ⟨_, hown⟩ := hown
    have hl2 : ((List.range n).map fun q => ((f j q : Nat) : Int)).length = n := by simp
    rcases hown with ⟨_, h1⟩ | ⟨bj, cj, curj, rfl, hb, hh, h1, h2, h3, h4⟩
    · rw [hl2] at h1; omega
    · rw [hl2] at h1 h4 hiu
      rw [Nat.mul_one] at h4
      have hp := hR.1 bj rfl
      exact ⟨bj, cj, curj, hiu, hb, hp.2, h1, h2, hh, by simpa using h3, h4⟩
  have ch : ∃ b cp : Nat → Nat, ∀ j, j < n → inner[j]? = some (.slice (some ⟨b j, 0, none⟩) n (cp j)) ∧ base ≤ b j ∧ π (b j) = j ∧ n ≤ cp j ∧ cp j ≤ maxLen ∧ RowG w (b j) n (cp j) (f j) := by
    refine ⟨fun j => if h : j < n then (each j h).choose else 0, fun j => if h : j < n then (each j h).choose_spec.choose else 0, fun j hj => ?_⟩
    simp only [dif_pos hj]
    obtain ⟨curj, e1, e2, e3, e4, e5, e6, e8, e7⟩ := (each j hj).choose_spec.choose_spec
    refine ⟨e1, e2, e3, e4, e5, curj, e6, e8, fun q hq => toArr e7 hq ?_⟩
    simp [encs, hq]
  obtain ⟨b, cp, hb⟩ := ch
  refine ⟨g, gc, b, cp, rfl, hle, hmx, ⟨⟨cur, hheap, by simpa [hsz1] using hsz, fun k hk => toArr htk hk (hb k hk).1⟩, fun j hj => (hb j hj).2.2.2.2.2, fun i j hi hj e => ?_⟩, hbg, fun j hj => (hb j hj).2.1, fun j hj => ⟨(hb j hj).2.2.2.1, (hb j hj).2.2.2.2.1⟩⟩
  rw [← (hb i hi).2.2.1, e, (hb j hj).2.2.1]
theorem GridG.owned {wr : World} {g gc n base : Nat} {b cp : Nat → Nat} {f : Nat → Nat → Nat} (h : GridG wr g gc n b cp f) (hgc : n ≤ gc) (hgm : gc ≤ maxLen) (hg : base ≤ g) (hb : ∀ j, j < n → base ≤ b j) (hcp : ∀ j, j < n → n ≤ cp j ∧ cp j ≤ maxLen) :
    Kd.S KR 25 wr base (fun _ => True) (.slice (some ⟨g, 0, none⟩) n gc) (matrix n n fun i j => ((f i j : Nat) : Int)) := by
  obtain ⟨cs, t1, t3, t2⟩ := h.top
  have hinner : cs.toList.take n = (List.range n).map fun j => Value.slice (some ⟨b j, 0, none⟩) n (cp j) := by
    apply List.ext_getElem?
    intro k
    by_cases hk : k < n
    · rw [List.getElem?_take_of_lt hk]
      have := t2 k hk
      simp [hk]
      simpa using this
    · rw [List.getElem?_eq_none (by simp; omega), List.getElem?_eq_none (by simp; omega)]
  refine ⟨fun k => ((List.range n).find? fun j => b j == k).getD 0, fun _ _ => trivial, (List.range n).map fun j => Value.slice (some ⟨b j, 0, none⟩) n (cp j), ⟨?_, .inr ⟨g, gc, cs, ?_, hg, t1, ?_, hgm, ?_, ?_⟩⟩, ?_, fun j p hj => ?_⟩
  · simp [matrix, Kd.tag, Kd.slice]
  · simp [matrix]
  · simp [matrix]; exact hgc
  · simp [t3, Kd.tag, Kd.slice]
  · rw [← hinner]; simp [matrix, Kd.tag, Kd.slice]
  · simp [matrix, Kd.tag, Kd.slice]
  · have hz : (matrix n n fun i j => ((f i j : Nat) : Int)).zipIdx[j]? = some p := hj
    rw [List.getElem?_zipIdx] at hz
    obtain ⟨r, hr, rfl⟩ := Option.map_eq_some_iff.1 hz
    have hjn : j < n := by
      have := (List.getElem?_eq_some_iff.1 hr).1
      simpa [matrix] using this
    have hr2 : r = (List.range n).map fun q => ((f j q : Nat) : Int) := by
      simp [matrix, hjn] at hr
      exact hr.symm
    subst hr2
    have hcs : ((((List.range n).map fun j => Value.slice (some ⟨b j, 0, none⟩) n (cp j)).drop (j * 1)).take 1) = [.slice (some ⟨b j, 0, none⟩) n (cp j)] := by
      have hlen : j < ((List.range n).map fun j => Value.slice (some ⟨b j, 0, none⟩) n (cp j)).length := by simp [hjn]
      rw [Nat.mul_one, List.drop_eq_getElem_cons hlen]
      simp
    show ∃ v, ((((List.range n).map fun j => Value.slice (some ⟨b j, 0, none⟩) n (cp j)).drop (j * 1)).take 1) = [v] ∧ _
    obtain ⟨rs, r1, r3, r2⟩ := h.row j hjn
    refine ⟨_, hcs, Kd.R_of_own ⟨?_, .inr ⟨b j, cp j, rs, ?_, hb j hjn, r1, ?_, (hcp j hjn).2, ?_, ?_⟩⟩ ?_⟩
    · simp [encs]
    · simp
    · simp; exact (hcp j hjn).1
    · simp [r3]
    · apply List.ext_getElem?
      intro k
      by_cases hk : k < n
      · rw [List.getElem?_take_of_lt (by simp; exact hk)]
        have := r2 k hk
        simp [encs, hk]
        simpa using this
      · rw [List.getElem?_eq_none (by simp; omega), List.getElem?_eq_none (by simp [encs]; omega)]
    · intro k hk
      have hk2 : b j = k := by simpa [Value.ownBlock] using hk
      subst hk2
      refine ⟨⟨trivial, ?_⟩, ?_⟩
      · have := h.ne hjn
        simp only [Value.ownBlock]
        intro e
        injection e with e
        omega
      · show (List.find? _ _).getD 0 = 0 + j
        have : (List.range n).find? (fun q => b q == b j) = some j := by
          rw [List.find?_eq_some_iff_getElem]
          refine ⟨by simp, j, by simpa using hjn, by simp, fun q hq => ?_⟩
          simp
          intro e
          have := h.inj q j (by omega) hjn e
          omega
        rw [this]
        simp
end Go.Proofs.Ytjolnjckgoilpaa.Gf
end

section
/-
  What the reference's Inverse holds while it runs: two grids whose arrays may be longer.
-/
set_option linter.unusedVariables false
set_option linter.unusedSimpArgs false
namespace Go.Proofs.Ytjolnjckgoilpaa.Gf
open Go.RowKit Go.Proofs.YtjolnjckgoilpaaW.PrintWords Go.Proofs.YtjolnjckgoilpaaW.PrintLast Go.Proofs.Ytjolnjckgoilpaa.PRa

/-- A grid of the call's own. -/
structure Own (w wr : World) (g gc n : Nat) (b cp : Nat → Nat) (f : Nat → Nat → Nat) : Prop where
  grid : GridG wr g gc n b cp f
  top : w.heap.size ≤ g
  rows : ∀ j, j < n → w.heap.size ≤ b j
  len : n ≤ gc ∧ gc ≤ maxLen
  lens : ∀ j, j < n → n ≤ cp j ∧ cp j ≤ maxLen
  val : ∀ i j, i < n → j < n → f i j < 256
structure St2 (w wr : World) (ga gca go gco n : Nat) (ba ca bo co : Nat → Nat) (s : Sq) : Prop where
  below : Below w.heap.size w wr
  a : Own w wr ga gca n ba ca s.1
  o : Own w wr go gco n bo co s.2
  ne : ga ≠ go
  sep : ∀ i j, i < n → j < n → ba i ≠ bo j
section
variable {w wr w2 : World} {g gc ga gca go gco n : Nat} {b cp ba ca bo co : Nat → Nat} {f : Nat → Nat → Nat} {s : Sq}
theorem gtop_ne {w3 : World} {g' gc' n' : Nat} {b' cp' : Nat → Nat} {f' : Nat → Nat → Nat} (h : GridG wr g gc n b cp f) (h' : GridG wr g' gc' n' b' cp' f') {j : Nat} (hj : j < n') : g ≠ b' j := by
  obtain ⟨cs, h1, _⟩ := h.top
  obtain ⟨cs2, h2, _⟩ := h'.row j hj
  exact type_ne h1 h2 (by decide)
theorem Own.row {i : Nat} {r : Nat → Nat} (h : Own w wr g gc n b cp f) (hi : i < n) (hg : wr.grownBy w2 (some (b i))) (hr : RowG w2 (b i) n (cp i) r) (hv : ∀ j, j < n → r j < 256) : Own w w2 g gc n b cp (upd f i r) :=
  ⟨h.grid.rowset hi hg hr, h.top, h.rows, h.len, h.lens, fun p q hp hq => by
    unfold upd
    split
    · exact hv q hq
    · exact h.val p q hp hq⟩
theorem Own.kept {x : Nat} (h : Own w wr g gc n b cp f) (hg : wr.grownBy w2 (some x)) (h1 : g ≠ x) (h2 : ∀ j, j < n → b j ≠ x) : Own w w2 g gc n b cp f := ⟨h.grid.kept hg h1 h2, h.top, h.rows, h.len, h.lens, h.val⟩
theorem Own.below (h : Own w wr g gc n b cp f) (hb : Below wr.heap.size wr w2) : Own w w2 g gc n b cp f := ⟨h.grid.below hb, h.top, h.rows, h.len, h.lens, h.val⟩
theorem Own.swap {i j : Nat} (h : Own w wr g gc n b cp f) (hi : i < n) (hj : j < n) (hG : GridG w2 g gc n (swp b i j) (swp cp i j) (swp f i j)) : Own w w2 g gc n (swp b i j) (swp cp i j) (swp f i j) :=
  ⟨hG, h.top, fun q hq => by rw [swp_sw]; exact h.rows _ (sw_lt hi hj hq), h.len, fun q hq => by rw [swp_sw]; exact h.lens _ (sw_lt hi hj hq), fun p q hp hq => by rw [swp_sw]; exact h.val _ _ (sw_lt hi hj hp) hq⟩
theorem St2.step (h : St2 w wr ga gca go gco n ba ca bo co s) (hb : Below wr.heap.size wr w2) : St2 w w2 ga gca go gco n ba ca bo co s :=
  ⟨h.below.trans (hb.mono h.below.size), h.a.below hb, h.o.below hb, h.ne, h.sep⟩
theorem St2.rowA {i : Nat} {r : Nat → Nat} (h : St2 w wr ga gca go gco n ba ca bo co s) (hi : i < n) (hg : wr.grownBy w2 (some (ba i))) (hr : RowG w2 (ba i) n (ca i) r) (hv : ∀ j, j < n → r j < 256) : St2 w w2 ga gca go gco n ba ca bo co (upd s.1 i r, s.2) :=
  ⟨below_grown h.below hg (h.a.rows i hi), h.a.row hi hg hr hv, h.o.kept hg (gtop_ne (w3 := w) h.o.grid h.a.grid hi) (fun j hj => (h.sep i j hi hj).symm), h.ne, h.sep⟩
theorem St2.rowO {i : Nat} {r : Nat → Nat} (h : St2 w wr ga gca go gco n ba ca bo co s) (hi : i < n) (hg : wr.grownBy w2 (some (bo i))) (hr : RowG w2 (bo i) n (co i) r) (hv : ∀ j, j < n → r j < 256) : St2 w w2 ga gca go gco n ba ca bo co (s.1, upd s.2 i r) :=
  ⟨below_grown h.below hg (h.o.rows i hi), h.a.kept hg (gtop_ne (w3 := w) h.a.grid h.o.grid hi) (fun j hj => h.sep j i hj hi), h.o.row hi hg hr hv, h.ne, h.sep⟩
theorem St2.swapA {i j : Nat} (h : St2 w wr ga gca go gco n ba ca bo co s) (hi : i < n) (hj : j < n) (hg : wr.grownBy w2 (some ga)) (hG : GridG w2 ga gca n (swp ba i j) (swp ca i j) (swp s.1 i j)) : St2 w w2 ga gca go gco n (swp ba i j) (swp ca i j) bo co (swp s.1 i j, s.2) :=
  ⟨below_grown h.below hg h.a.top, h.a.swap hi hj hG, h.o.kept hg h.ne.symm (fun q hq => (gtop_ne (w3 := w) h.a.grid h.o.grid hq).symm), h.ne, fun p q hp hq => by rw [swp_sw]; exact h.sep _ _ (sw_lt hi hj hp) hq⟩
theorem St2.swapO {i j : Nat} (h : St2 w wr ga gca go gco n ba ca bo co s) (hi : i < n) (hj : j < n) (hg : wr.grownBy w2 (some go)) (hG : GridG w2 go gco n (swp bo i j) (swp co i j) (swp s.2 i j)) : St2 w w2 ga gca go gco n ba ca (swp bo i j) (swp co i j) (s.1, swp s.2 i j) :=
  ⟨below_grown h.below hg h.o.top, h.a.kept hg h.ne (fun q hq => (gtop_ne (w3 := w) h.o.grid h.a.grid hq).symm), h.o.swap hi hj hG, h.ne, fun p q hp hq => by rw [swp_sw]; exact h.sep _ _ hp (sw_lt hi hj hq)⟩
end
end Go.Proofs.Ytjolnjckgoilpaa.Gf
end
