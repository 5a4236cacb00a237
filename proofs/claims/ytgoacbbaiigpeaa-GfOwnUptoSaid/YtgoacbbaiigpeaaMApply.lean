/- Several texts of this session laid together: GfConcat, GfApply. -/
import Derived.Test.YtgoacbbaiigpeaaMExt
import Derived.Lib.AppendZerosOnto
import Derived.Lib.Walk
import Derived.Test.YtgoacbbaiigpeaaGfAlg
section
/-
  slices.Grow of nil, slices.Concat of rows of one byte each.
-/
set_option linter.unusedVariables false
set_option linter.unusedSimpArgs false
namespace Go.Proofs.Ytgoacbbaiigpeaa.Gf
open Go.RowKit Go.Proofs.YtgoacbbaiigpeaaW.PrintWords Go.Proofs.YtgoacbbaiigpeaaW.PrintLast Go.Proofs.Ytgoacbbaiigpeaa.PGa

set_option maxHeartbeats 2000000 in
theorem grow66 (w : World) (n : Nat) (h1 : 1 ≤ n) (hn : n ≤ 255) :
    Calls Try.prog 66 #[.slice none 0 0, .int .i64 n] w fun e w' => ∃ G cur, e = .returned (.slice (some ⟨w.heap.size, 0, none⟩) 0 G) ∧ G ≤ maxLen ∧ cur.size = G ∧ w' = w.drew.alloc (.cells cur 5) := by
  obtain ⟨i, hi, h⟩ := Option.map_eq_some_iff.1 info5
  simp only [Prod.mk.injEq] at h
  obtain ⟨h0, hs, hb⟩ := h
  have hr : ∀ ty, (Builtin.append_ #[53, 3] ty #[.slice none 0 0, .int .i64 (n : Int)]).run Try.prog w = .ok (.slice (some ⟨w.heap.size, 0, none⟩) (0 + n) (grownCap w (0 + n) 0 5)) (w.drew.alloc (.cells ((([] : List Value).toArray ++ Builtin.zeroCells (Value.int .u8 0).cells n) ++ Builtin.zeroCells (Value.int .u8 0).cells (grownCap w (0 + n) 0 5 - (0 + n))) 5)) := fun ty =>
    Lib.run_append_grow_zeros w 53 3 ty 5 i (.int .u8 0) .i64 .i64 Try.underlying53 Try.underlying3 hi h0 none 0 0 [] (run_firstCells_none w.drew i.size 0 0 0) n (by omega) (by omega) (by omega) (by omega) (by rw [hb]; omega) (by rw [hb]; exact growslice_fits (by omega) (by omega))
  have hge : 0 + n ≤ grownCap w (0 + n) 0 5 := grownCap_ge w _ _ _
  have hmx : grownCap w (0 + n) 0 5 ≤ maxLen := grownCap_le_maxLen w (0 + n) 0 5 (by unfold maxLen; omega)
  generalize grownCap w (0 + n) 0 5 = G at *
  rw [Nat.zero_add] at hr hge
  have hsz : ((([] : List Value).toArray ++ Builtin.zeroCells (Value.int .u8 0).cells n) ++ Builtin.zeroCells (Value.int .u8 0).cells (G - n)).size = G := by
    simp [Builtin.zeroCells, Value.cells]
    omega
  generalize ((([] : List Value).toArray ++ Builtin.zeroCells (Value.int .u8 0).cells n) ++ Builtin.zeroCells (Value.int .u8 0).cells (G - n)) = cur at *
  have q1 : decide ((n : Int) < 0) = false := decide_eq_false (by omega)
  have q2 : decide (0 < (n : Int)) = true := decide_eq_true (by omega)
  have q3 : (0 : Int) < (n : Int) := by omega
  have q4 : 0 < n := by omega
  go_enter Try.func66, Try.ntmps66
  go_wp2_with (at_builtin; refine Lib.wpList_append_run _ rfl _ _ _ _ rfl _ _ rfl rfl _ _ (hr _) ?_)
  go_ret
  exact ⟨G, cur, rfl, hmx, hsz, rfl⟩
def firsts (l : List (List Int)) (k : Nat) : List Int := (List.range k).map fun i => (row l i).getD 0 0
theorem firsts_succ (l : List (List Int)) (k : Nat) : firsts l (k + 1) = firsts l k ++ [(row l k).getD 0 0] := by simp [firsts, List.range_succ]
theorem firsts_length (l : List (List Int)) (k : Nat) : (firsts l k).length = k := by simp [firsts]
theorem one_row {l : List (List Int)} {k : Nat} (h : (row l k).length = 1) : row l k = [(row l k).getD 0 0] := by
  match hr : row l k, h with
  | [a], _ => rfl
set_option maxHeartbeats 4000000 in
theorem concat61 (w : World) (l : List (List Int)) (A : Option Addr) (c n : Nat) (hC : KR.C w A n l) (hl : l.length = n) (h1 : 1 ≤ n) (hn : n ≤ 255) (hrow : ∀ i, i < n → (row l i).length = 1) :
    Calls Try.prog 61 #[.slice A n c] w fun e w' => ∃ v0_ : Value, e = .returned v0_ ∧ Kd.R (Kd.int .u8) 5 w' w.heap.size (fun _ => True) v0_ (firsts l n) ∧ Below w.heap.size w w' := by
  subst hl
  go_enter Try.func61, Try.ntmps61
  go_wp2
  go_loopw [11, 3] (fun v u wr => ∃ k : Nat, k ≤ l.length ∧ v = .int .i64 (k : Nat) ∧ u = .int .i64 (k : Nat) ∧ Below w.heap.size w wr) (fun v _ _ => l.length - (intOf v).toNat)
  case atStart => exact ⟨0, Nat.zero_le _, rfl, rfl, Below.refl _ _⟩
  case round =>
    obtain ⟨k, hk, rfl, rfl, hB⟩ := hrel
    by_cases hlt : k < l.length
    · obtain ⟨ad, A', c', rfl, hcell, hle, hI⟩ := rows_at (Kd.C_below hC hB) hlt
      rw [hrow k hlt] at hcell hle
      have q1 : (0 : Int) ≤ (k : Int) := by omega
      have q2 : (k : Int) < (l.length : Int) := by omega
      have b1 : decide ((k : Int) + 1 < 0) = false := decide_eq_false (by omega)
      go_wp2
      go_roundw
      case rel => exact ⟨k + 1, by omega, by go_num, by go_num, hB⟩
      case measure => simp [intOf]; omega
    · obtain rfl : k = l.length := by omega
      have HG := grow66 wr l.length h1 hn
      go_wp2_with (go_at_call 66; refine HG.mono ?_; rintro e w2 ⟨G, cur, rfl, hG, hsz, rfl⟩)
      have hR0 : Kd.R (Kd.int .u8) 5 (wr.alloc (.cells cur 5)).drew w.heap.size (fun _ => True) (.slice (some ⟨wr.heap.size, 0, none⟩) 0 G) (firsts l 0) := by
        refine Kd.R_of_own ⟨?_, .inr ⟨wr.heap.size, G, cur, ?_, hB.size, heap_alloc_new wr _, ?_, ?_, ?_, ?_⟩⟩ (fun _ _ => trivial)
        · simp [encs, firsts]
        · simp [firsts]
        · simp [firsts]
        · exact hG
        · simp [hsz]
        · simp [encs, firsts]
      have hB0 : Below w.heap.size w (wr.alloc (.cells cur 5)).drew := (hB.alloc hB.size _).drew
      have HRow : Hid (∀ i, i < l.length → (row l i).length = 1) := hrow
      have HC0 : Hid (KR.C w A l.length l) := hC
      clear hrow hC hB
      generalize (wr.alloc (.cells cur 5)).drew = w3 at *
      go_loopw [27, 6] (fun v u wx => ∃ k : Nat, k ≤ l.length ∧ v = .int .i64 (k : Nat) ∧ Kd.R (Kd.int .u8) 5 wx w.heap.size (fun _ => True) u (firsts l k) ∧ Below w.heap.size w wx) (fun v _ _ => l.length - (intOf v).toNat)
      case atStart => exact ⟨0, Nat.zero_le _, rfl, hR0, hB0⟩
      case round =>
        clear hR0 hB0
        obtain ⟨k, hk, rfl, hR, hB⟩ := hrel
        by_cases hlt : k < l.length
        · obtain ⟨ad, A', c', rfl, hcell, hle, hI⟩ := rows_at (Kd.C_below HC0.out hB) hlt
          have hone := one_row (HRow.out k hlt)
          rw [HRow.out k hlt] at hcell hle hI
          have q1 : (0 : Int) ≤ (k : Int) := by omega
          have q2 : (k : Int) < (l.length : Int) := by omega
          have HR : Hid (Kd.R (Kd.int .u8) 5 wr w.heap.size (fun _ => True) u6 (firsts l k)) := hR
          have HI : Hid (KB.C wr A' 1 (row l k)) := hI
          have HO : Hid (row l k = [(row l k).getD 0 0]) := hone
          have HL : Hid ((firsts l k).length = k) := firsts_length l k
          have HS : Hid (firsts l (k + 1) = firsts l k ++ [(row l k).getD 0 0]) := firsts_succ l k
          clear hR hI hone
          go_wp2_with (refine Kd.R_append_rows (Kd.int .u8) (w0 := w) w.heap.size rfl (.tmp 31) (.tmp 32) 53 5 (.int .u8 0) 1 rfl Try.underlying53 info5 rfl (by decide) (by omega) u6 (firsts l k) (row l k) _ _ _ (fun _ => True) (fun _ => False) rfl rfl HR.out HI.out (fun _ _ h => h) (fun _ h => h.elim) (fun _ _ => trivial) hB hB.size (by rw [HL.out]; omega) ?_; intro v1 w1 ho hb hg hat)
          rw [HO.out, ← HS.out] at ho
          go_roundw
          case rel => exact ⟨k + 1, by omega, by go_num, ho, hb⟩
          case measure => simp [intOf]; omega
        · obtain rfl : k = l.length := by omega
          go_wp2
          go_ret
          exact ⟨_, rfl, hR, hB⟩
end Go.Proofs.Ytgoacbbaiigpeaa.Gf
end

section
/-
  The walk of gf.Matrix.Apply.
-/
set_option linter.unusedVariables false
set_option linter.unusedSimpArgs false
namespace Go.Proofs.Ytgoacbbaiigpeaa.Gf
open Go.RowKit Go.Proofs.YtgoacbbaiigpeaaW.PrintWords Go.Proofs.YtgoacbbaiigpeaaW.PrintLast Go.Proofs.Ytgoacbbaiigpeaa.PGa

def okV (v : List Int) : Bool := v.all fun x => decide (0 ≤ x) && decide (x < 256)
def vb (v : List Int) (k : Nat) : Nat := (v.getD k 0).toNat
theorem okV_at {v : List Int} (h : okV v = true) (k : Nat) : vb v k < 256 ∧ v.getD k 0 = ((vb v k : Nat) : Int) := by
  have : 0 ≤ v.getD k 0 ∧ v.getD k 0 < 256 := by
    simp only [List.getD_eq_getElem?_getD]
    by_cases hi : k < v.length
    · simp only [hi, List.getElem?_eq_getElem, Option.getD_some]
      have h2 := List.all_eq_true.1 h v[k] (List.getElem_mem hi)
      simpa using h2
    · simp [hi]
  unfold vb
  omega
theorem col60 (W : World) (v : List Int) (A : Option Addr) (c vbx i j : Nat) (hV : KB.C W A v.length v) (hm : W.cell? ⟨vbx, 0, none⟩ = some (.slice A v.length c)) (ok : okV v = true) (hi : i < v.length) :
    Calls Try.prog 60 #[.int .i64 i, .int .i64 j, .pointer (some ⟨vbx, 0, none⟩)] W fun e w' => e = .returned (.int .u8 ((vb v i : Nat) : Int)) ∧ Below W.heap.size W w' := by
  obtain ⟨a2, rfl, h2⟩ := byte_at hV hi
  rw [(okV_at ok i).2] at h2
  have q1 : (0 : Int) ≤ (i : Int) := by omega
  have q2 : (i : Int) < (v.length : Int) := by omega
  generalize vb v i = x at *
  go_enter Try.func60, Try.ntmps60
  go_wp2
  go_ret
  exact ⟨rfl, Below.refl _ _⟩
def column (v : List Int) : List (List Int) := matrix v.length 1 fun i _ => ((vb v i : Nat) : Int)
theorem col_made (w W : World) (v : List Int) (A : Option Addr) (c vbx : Nat) (hW : Below w.heap.size w W) (hV : KB.C w A v.length v) (hm : W.cell? ⟨vbx, 0, none⟩ = some (.slice A v.length c)) (ok : okV v = true) (hl : v.length ≤ 255) :
    Calls Try.prog 39 #[.int .i64 v.length, .int .i64 1, .func (.func 60) #[] #[.pointer (some ⟨vbx, 0, none⟩)]] W
      fun e w' => ∃ v0_ : Value, e = .returned v0_ ∧ Kd.S KR 53 w' W.heap.size (fun _ => True) v0_ (column v) ∧ Below W.heap.size W w' := by
  have h := made_calls W v.length 1 60 #[.pointer (some ⟨vbx, 0, none⟩)] (fun i _ => ((vb v i : Nat) : Int)) hl (by omega) (Go.Proofs.enters_of Try.func60 (by kernel_rfl) rfl) (by
    intro i j hi hj W' hW'
    exact col60 W' v A c vbx i j (Kd.C_below hV (hW.trans (hW'.mono hW.size))) (pw_cell_below hW' hm) ok hi)
  refine h.mono ?_
  rintro e w' ⟨b, rfl, hOut⟩
  exact ⟨_, rfl, hOut.owned hl (by omega), hOut.below⟩
theorem column_length (v : List Int) : (column v).length = v.length := GbFacts.matrix_length _ _ _
theorem column_row {v : List Int} {i : Nat} (h : i < v.length) : row (column v) i = [((vb v i : Nat) : Int)] := by unfold column; rw [row_matrix h]; rfl
/-- What it tells; none where an element is no byte. -/
def applyF (l : List (List Int)) (v : List Int) : Option (List Int × Int) :=
  if okB l = true ∧ okV v = true then
    (if rightB l = true ∧ v.length = (row l 0).length then some ((List.range l.length).map (fun i => ((mv v.length (byt l) (vb v) i : Nat) : Int)), 0) else some ([], 1))
  else none
set_option maxHeartbeats 1000000 in
theorem apply_calls (A0 : Option Addr) (c0 : Nat) (l0 : List (List Int)) (A1 : Option Addr) (c1 : Nat) (l1 : List Int) (r1 : List Int) (r2 : Int) (w : World) (hr0 : Kd.C (Kd.slice 5 (Kd.int .u8)) w A0 l0.length l0) (hr1 : Kd.C (Kd.int .u8) w A1 l1.length l1) (h : applyF l0 l1 = some (r1, r2)) :
    Calls Try.prog 34 #[.slice A0 l0.length c0, .slice A1 l1.length c1] w fun e w' => ∃ v0_ : Value, e = .returned (.tuple #[v0_, .int .i64 r2]) ∧ Kd.R (Kd.int .u8) 5 w' w.heap.size (fun _ => True) v0_ r1 ∧ Below w.heap.size w w' := by
  have hb1 := below1 w (.cells #[.slice A1 l1.length c1] 53)
  have hca : (w.alloc (.cells #[.slice A1 l1.length c1] 53)).cell? ⟨w.heap.size, 0, none⟩ = some (.slice A1 l1.length c1) := by
    rw [World.cell?_alloc_at _ _ _ _ rfl]; rfl
  unfold applyF at h
  by_cases ok : okB l0 = true ∧ okV l1 = true
  rotate_left
  · rw [if_neg ok] at h; cases h
  rw [if_pos ok] at h
  by_cases hm : rightB l0 = true
  rotate_left
  · rw [if_neg (fun h => hm h.1)] at h
    simp only [Option.some.injEq, Prod.mk.injEq] at h
    obtain ⟨rfl, rfl⟩ := h
    have HR := right_hid (c := c0) hr0 (show rightB l0 = false by simpa using hm)
    clear hm
    go_enter Try.func34, Try.ntmps34
    go_wp2
    refine start_ (n := 12) (S := fun w' => w'.cell? ⟨w.heap.size, 0, none⟩ = some (.slice A1 l1.length c1)) (ds := []) #[false, false, false, false, false, false, false, false, false, false, false, false] (by kernel_rfl) rfl rfl (hca) (fun hHeld => ?_)
    refine pure_ (i := 0) (N := some 9) (v := ?_) (a' := ?_) #[true, false, false, false, false, false, false, false, false, false, false, false] rfl rfl (by kernel_rfl) (fun _ _ _ h => h) (Or.inl ⟨by rfl, ?_⟩) ?_ ?_
    rotate_left
    · intro w'
      go_simp
      with_reducible rfl
    rotate_left
    · simp only [Act.put, List.setIfInBounds_toArray, List.set_cons_zero, List.set_cons_succ, i64_w, i32_w]
      rfl
    refine one_ (i := 1) (N := some 10) #[true, true, false, false, false, false, false, false, false, false, false, false] rfl rfl (by kernel_rfl) (by decide) (fun K hK => ?_)
    refine goes_ Try.func27 (by kernel_rfl) rfl #[.slice A0 l0.length c0] (by rfl) rfl rfl (by simp only [List.map_toArray, List.map_cons, List.map_nil]; rfl) ?_
    refine Calls.mono (HR.out _ hb1.drew) ?_
    rintro e w2 ⟨rfl, hb⟩
    refine ⟨_, rfl, ?_⟩
    refine hK.out _ _ ((hb.cell (p := ⟨w.heap.size, 0, none⟩) (by simp)).trans hca) (fun hHeld => ?_)
    clear hK K
    refine norm_ (a' := ?_) ?_ ?_
    rotate_left
    · show Act.put _ (some 10) _ = _
      simp only [Act.put, List.setIfInBounds_toArray, List.set_cons_zero, List.set_cons_succ, i64_w, i32_w]
      rfl
    refine pure_ (i := 2) (N := some 11) (v := ?_) (a' := ?_) #[true, true, true, false, false, false, false, false, false, false, false, false] rfl rfl (by kernel_rfl) (fun _ _ _ h => h) (Or.inl ⟨by rfl, ?_⟩) ?_ ?_
    rotate_left
    · intro w'
      go_simp
      with_reducible rfl
    rotate_left
    · simp only [Act.put, List.setIfInBounds_toArray, List.set_cons_zero, List.set_cons_succ, i64_w, i32_w]
      rfl
    refine pure_ (i := 3) (N := some 12) (v := ?_) (a' := ?_) #[true, true, true, true, false, false, false, false, false, false, false, false] rfl rfl (by kernel_rfl) (fun _ _ _ h => h) (Or.inl ⟨by rfl, ?_⟩) ?_ ?_
    rotate_left
    · intro w'
      go_simp
      with_reducible rfl
    rotate_left
    · simp only [Act.put, List.setIfInBounds_toArray, List.set_cons_zero, List.set_cons_succ, i64_w, i32_w]
      rfl
    refine pure_ (i := 4) (N := some 13) (v := undef) (a' := ?_) #[true, true, true, true, true, false, false, false, false, false, false, false] rfl rfl (by kernel_rfl) (fun _ _ _ h => h) (Or.inr ⟨by rfl, rfl⟩) ?_ ?_
    rotate_left
    · simp only [Act.put, List.setIfInBounds_toArray, List.set_cons_zero, List.set_cons_succ, i64_w, i32_w]
      rfl
    refine pure_ (i := 5) (N := some 14) (v := undef) (a' := ?_) #[true, true, true, true, true, true, false, false, false, false, false, false] rfl rfl (by kernel_rfl) (fun _ _ _ h => h) (Or.inr ⟨by rfl, rfl⟩) ?_ ?_
    rotate_left
    · simp only [Act.put, List.setIfInBounds_toArray, List.set_cons_zero, List.set_cons_succ, i64_w, i32_w]
      rfl
    refine pure_ (i := 6) (N := some 15) (v := undef) (a' := ?_) #[true, true, true, true, true, true, true, false, false, false, false, false] rfl rfl (by kernel_rfl) (fun _ _ _ h => h) (Or.inr ⟨by rfl, rfl⟩) ?_ ?_
    rotate_left
    · simp only [Act.put, List.setIfInBounds_toArray, List.set_cons_zero, List.set_cons_succ, i64_w, i32_w]
      rfl
    refine pure_ (i := 7) (N := some 16) (v := undef) (a' := ?_) #[true, true, true, true, true, true, true, true, false, false, false, false] rfl rfl (by kernel_rfl) (fun _ _ _ h => h) (Or.inr ⟨by rfl, rfl⟩) ?_ ?_
    rotate_left
    · simp only [Act.put, List.setIfInBounds_toArray, List.set_cons_zero, List.set_cons_succ, i64_w, i32_w]
      rfl
    refine pure_ (i := 8) (N := some 17) (v := undef) (a' := ?_) #[true, true, true, true, true, true, true, true, true, false, false, false] rfl rfl (by kernel_rfl) (fun _ _ _ h => h) (Or.inr ⟨by rfl, rfl⟩) ?_ ?_
    rotate_left
    · simp only [Act.put, List.setIfInBounds_toArray, List.set_cons_zero, List.set_cons_succ, i64_w, i32_w]
      rfl
    refine pure_ (i := 9) (N := some 18) (v := undef) (a' := ?_) #[true, true, true, true, true, true, true, true, true, true, false, false] rfl rfl (by kernel_rfl) (fun _ _ _ h => h) (Or.inr ⟨by rfl, rfl⟩) ?_ ?_
    rotate_left
    · simp only [Act.put, List.setIfInBounds_toArray, List.set_cons_zero, List.set_cons_succ, i64_w, i32_w]
      rfl
    refine pure_ (i := 10) (N := some 19) (v := undef) (a' := ?_) #[true, true, true, true, true, true, true, true, true, true, true, false] rfl rfl (by kernel_rfl) (fun _ _ _ h => h) (Or.inr ⟨by rfl, rfl⟩) ?_ ?_
    rotate_left
    · simp only [Act.put, List.setIfInBounds_toArray, List.set_cons_zero, List.set_cons_succ, i64_w, i32_w]
      rfl
    refine pure_ (i := 11) (N := some 20) (v := ?_) (a' := ?_) #[true, true, true, true, true, true, true, true, true, true, true, true] rfl rfl (by kernel_rfl) (fun _ _ _ h => h) (Or.inl ⟨by rfl, ?_⟩) ?_ ?_
    rotate_left
    · intro w'
      go_simp
      with_reducible rfl
    rotate_left
    · simp only [Act.put, List.setIfInBounds_toArray, List.set_cons_zero, List.set_cons_succ, i64_w, i32_w]
      rfl
    refine done_ (by kernel_rfl) ?_
    go_wp2
    go_ret2
    exact ⟨_, rfl, Kd.R_nil _ _ _ _ _, hb1.drew.trans (hb.mono (by simp))⟩
  have HR := right_hid (c := c0) hr0 hm
  have hlm : 0 < l0.length := by simp [rightB] at hm; omega
  obtain ⟨adm, A2, c2, rfl, hcell, hle, hI⟩ := rows_at hr0 hlm
  rw [Addr.add_zero'] at hcell
  have hltm := World.block_lt_of_cell? w _ hcell
  have hcell2 := pw_cell_below hb1 hcell
  have q : (0 : Int) < (l0.length : Int) := by omega
  by_cases hne : l1.length = (row l0 0).length
  rotate_left
  · rw [if_neg (fun h => hne h.2)] at h
    simp only [Option.some.injEq, Prod.mk.injEq] at h
    obtain ⟨rfl, rfl⟩ := h
    have e2 : ((l1.length : Int) != ((row l0 0).length : Int)) = true := by simp; omega
    clear hm hne
    generalize row l0 0 = r at *
    go_enter Try.func34, Try.ntmps34
    go_wp2
    refine start_ (n := 12) (S := fun w' => w'.cell? ⟨w.heap.size, 0, none⟩ = some (.slice A1 l1.length c1) ∧ w'.cell? adm = some (.slice A2 r.length c2)) (ds := []) #[false, false, false, false, false, false, false, false, false, false, false, false] (by kernel_rfl) rfl rfl ⟨hca, hcell2⟩ (fun hHeld => ?_)
    refine pure_ (i := 0) (N := some 9) (v := ?_) (a' := ?_) #[true, false, false, false, false, false, false, false, false, false, false, false] rfl rfl (by kernel_rfl) (fun _ _ _ h => h) (Or.inl ⟨by rfl, ?_⟩) ?_ ?_
    rotate_left
    · intro w'
      go_simp
      with_reducible rfl
    rotate_left
    · simp only [Act.put, List.setIfInBounds_toArray, List.set_cons_zero, List.set_cons_succ, i64_w, i32_w]
      rfl
    refine one_ (i := 1) (N := some 10) #[true, true, false, false, false, false, false, false, false, false, false, false] rfl rfl (by kernel_rfl) (by decide) (fun K hK => ?_)
    refine goes_ Try.func27 (by kernel_rfl) rfl #[.slice (some adm) l0.length c0] (by rfl) rfl rfl (by simp only [List.map_toArray, List.map_cons, List.map_nil]; rfl) ?_
    refine Calls.mono (HR.out _ hb1.drew) ?_
    rintro e w2 ⟨rfl, hb⟩
    refine ⟨_, rfl, ?_⟩
    refine hK.out _ _ ⟨(hb.cell (p := ⟨w.heap.size, 0, none⟩) (by simp)).trans hca, (hb.cell (p := adm) (by simp; omega)).trans hcell2⟩ (fun hHeld => ?_)
    clear hK K
    refine norm_ (a' := ?_) ?_ ?_
    rotate_left
    · show Act.put _ (some 10) _ = _
      simp only [Act.put, List.setIfInBounds_toArray, List.set_cons_zero, List.set_cons_succ, i64_w, i32_w]
      rfl
    refine pure_ (i := 2) (N := some 11) (v := ?_) (a' := ?_) #[true, true, true, false, false, false, false, false, false, false, false, false] rfl rfl (by kernel_rfl) (fun _ _ _ h => h) (Or.inl ⟨by rfl, ?_⟩) ?_ ?_
    rotate_left
    · intro w'
      go_simp
      with_reducible rfl
    rotate_left
    · simp only [Act.put, List.setIfInBounds_toArray, List.set_cons_zero, List.set_cons_succ, i64_w, i32_w]
      rfl
    refine pure_ (i := 3) (N := some 12) (v := ?_) (a' := ?_) #[true, true, true, true, false, false, false, false, false, false, false, false] rfl rfl (by kernel_rfl) (fun _ _ _ h => h) (Or.inl ⟨by rfl, ?_⟩) ?_ ?_
    rotate_left
    · intro w'
      go_simp
      with_reducible rfl
    rotate_left
    · simp only [Act.put, List.setIfInBounds_toArray, List.set_cons_zero, List.set_cons_succ, i64_w, i32_w]
      rfl
    refine pure_ (i := 6) (N := some 15) (v := ?_) (a' := ?_) #[true, true, true, true, false, false, true, false, false, false, false, false] rfl rfl (by kernel_rfl) (fun _ _ _ h => h) (Or.inl ⟨by rfl, ?_⟩) ?_ ?_
    rotate_left
    · intro w'
      go_simp
      with_reducible rfl
    rotate_left
    · simp only [Act.put, List.setIfInBounds_toArray, List.set_cons_zero, List.set_cons_succ, i64_w, i32_w]
      rfl
    refine pure_ (i := 7) (N := some 16) (v := ?_) (a' := ?_) #[true, true, true, true, false, false, true, true, false, false, false, false] rfl rfl (by kernel_rfl) (fun _ _ _ h => h) (Or.inl ⟨by rfl, ?_⟩) ?_ ?_
    rotate_left
    · intro w'
      go_simp
      with_reducible rfl
    rotate_left
    · simp only [Act.put, List.setIfInBounds_toArray, List.set_cons_zero, List.set_cons_succ, i64_w, i32_w]
      rfl
    refine take_ (i := 4) (N := some 13) (v := ?_) (a' := ?_) #[true, true, true, true, true, false, true, true, false, false, false, false] rfl rfl (by kernel_rfl) (fun _ _ _ h => h) (Or.inl ⟨by rfl, ?_⟩) hHeld ?_ ?_
    rotate_left
    · rintro w' ⟨s0, s1⟩
      go_simp
      with_reducible rfl
    rotate_left
    · simp only [Act.put, List.setIfInBounds_toArray, List.set_cons_zero, List.set_cons_succ, i64_w, i32_w]
      rfl
    refine pure_ (i := 5) (N := some 14) (v := ?_) (a' := ?_) #[true, true, true, true, true, true, true, true, false, false, false, false] rfl rfl (by kernel_rfl) (fun _ _ _ h => h) (Or.inl ⟨by rfl, ?_⟩) ?_ ?_
    rotate_left
    · intro w'
      go_simp
      with_reducible rfl
    rotate_left
    · simp only [Act.put, List.setIfInBounds_toArray, List.set_cons_zero, List.set_cons_succ, i64_w, i32_w]
      rfl
    refine take_ (i := 8) (N := some 17) (v := ?_) (a' := ?_) #[true, true, true, true, true, true, true, true, true, false, false, false] rfl rfl (by kernel_rfl) (fun _ _ _ h => h) (Or.inl ⟨by rfl, ?_⟩) hHeld ?_ ?_
    rotate_left
    · rintro w' ⟨s0, s1⟩
      go_simp
      with_reducible rfl
    rotate_left
    · simp only [Act.put, List.setIfInBounds_toArray, List.set_cons_zero, List.set_cons_succ, i64_w, i32_w]
      rfl
    refine pure_ (i := 9) (N := some 18) (v := ?_) (a' := ?_) #[true, true, true, true, true, true, true, true, true, true, false, false] rfl rfl (by kernel_rfl) (fun _ _ _ h => h) (Or.inl ⟨by rfl, ?_⟩) ?_ ?_
    rotate_left
    · intro w'
      go_simp
      with_reducible rfl
    rotate_left
    · simp only [Act.put, List.setIfInBounds_toArray, List.set_cons_zero, List.set_cons_succ, i64_w, i32_w]
      rfl
    refine pure_ (i := 10) (N := some 19) (v := ?_) (a' := ?_) #[true, true, true, true, true, true, true, true, true, true, true, false] rfl rfl (by kernel_rfl) (fun _ _ _ h => h) (Or.inl ⟨by rfl, ?_⟩) ?_ ?_
    rotate_left
    · intro w'
      go_simp
      with_reducible rfl
    rotate_left
    · simp only [Act.put, List.setIfInBounds_toArray, List.set_cons_zero, List.set_cons_succ, i64_w, i32_w]
      rfl
    refine pure_ (i := 11) (N := some 20) (v := ?_) (a' := ?_) #[true, true, true, true, true, true, true, true, true, true, true, true] rfl rfl (by kernel_rfl) (fun _ _ _ h => h) (Or.inl ⟨by rfl, ?_⟩) ?_ ?_
    rotate_left
    · intro w'
      go_simp
      with_reducible rfl
    rotate_left
    · simp only [Act.put, List.setIfInBounds_toArray, List.set_cons_zero, List.set_cons_succ, i64_w, i32_w]
      rfl
    refine done_ (by kernel_rfl) ?_
    go_wp2
    go_ret2
    exact ⟨_, rfl, Kd.R_nil _ _ _ _ _, hb1.drew.trans (hb.mono (by simp))⟩
  rw [if_pos ⟨hm, hne⟩] at h
  simp only [Option.some.injEq, Prod.mk.injEq] at h
  obtain ⟨rfl, rfl⟩ := h
  have hl0 : l0.length ≤ 255 := by simp [rightB] at hm; omega
  have hl1 : 1 ≤ l1.length ∧ l1.length ≤ 255 := by simp [rightB] at hm; omega
  have hMade : ∀ W, Below w.heap.size w W → W.cell? ⟨w.heap.size, 0, none⟩ = some (.slice A1 l1.length c1) → Calls Try.prog 39 #[.int .i64 l1.length, .int .i64 1, .func (.func 60) #[] #[.pointer (some ⟨w.heap.size, 0, none⟩)]] W
      fun e w' => ∃ v0_ : Value, e = .returned v0_ ∧ Kd.S KR 53 w' W.heap.size (fun _ => True) v0_ (column l1) ∧ Below W.heap.size W w' := fun W hW hc => col_made w W l1 A1 c1 _ hW hr1 hc ok.2 hl1.2
  have okc : okB (column l1) = true := okB_matrix fun i j _ _ => (okV_at ok.2 i).1
  have rtc : rightB (column l1) = true := rightB_matrix hl1.1 hl1.2 (by omega) (by omega)
  have hrc : (row (column l1) 0).length = 1 := by rw [column_row (by omega)]; rfl
  have hTimes : ∀ (W : World) (Ao : Option Addr) (co : Nat), Below w.heap.size w W → KR.C W Ao (column l1).length (column l1) → Calls Try.prog 31 #[.slice (some adm) l0.length c0, .slice Ao (column l1).length co] W fun e w' => ∃ v0_ : Value, e = .returned (.tuple #[v0_, .int .i64 0]) ∧ Kd.S KR 53 w' W.heap.size (fun _ => True) v0_ (matrix l0.length 1 (fun i j => ((prod l0 (column l1) i j : Nat) : Int))) ∧ Below W.heap.size W w' := fun W Ao co hW hO => by
    have := times31_ok W l0 (column l1) (some adm) Ao c0 co (Kd.C_below hr0 hW) hO ok.1 okc hm rtc (by rw [column_length]; omega)
    rwa [hrc] at this
  have hlen : (matrix l0.length 1 (fun i j => ((prod l0 (column l1) i j : Nat) : Int))).length = l0.length := GbFacts.matrix_length _ _ _
  have hrow : ∀ i, i < l0.length → (row (matrix l0.length 1 (fun i j => ((prod l0 (column l1) i j : Nat) : Int))) i).length = 1 := fun i hi => by rw [row_matrix hi]; simp
  have hfirst : firsts (matrix l0.length 1 (fun i j => ((prod l0 (column l1) i j : Nat) : Int))) l0.length = (List.range l0.length).map (fun i => ((mv l1.length (byt l0) (vb l1) i : Nat) : Int)) := by
    unfold firsts
    apply List.map_congr_left
    intro i hi
    have hi2 : i < l0.length := by simpa using hi
    rw [row_matrix hi2]
    show ((prod l0 (column l1) i 0 : Nat) : Int) = _
    congr 1
    unfold prod mv
    rw [column_length]
    exact sx_congr fun k hk => by
      congr 1
      unfold column
      rw [byt_matrix hk (by omega)]
  have hCat : ∀ (W : World) (Ao : Option Addr) (co : Nat), KR.C W Ao l0.length (matrix l0.length 1 (fun i j => ((prod l0 (column l1) i j : Nat) : Int))) → Calls Try.prog 61 #[.slice Ao l0.length co] W fun e w' => ∃ v0_ : Value, e = .returned v0_ ∧ Kd.R (Kd.int .u8) 5 w' W.heap.size (fun _ => True) v0_ ((List.range l0.length).map (fun i => ((mv l1.length (byt l0) (vb l1) i : Nat) : Int))) ∧ Below W.heap.size W w' := fun W Ao co hC => by
    have := concat61 W _ Ao co l0.length hC hlen (by omega) hl0 hrow
    rwa [hfirst] at this
  have HM : Hid _ := hMade
  have HT : Hid _ := hTimes
  have HC : Hid _ := hCat
  have e2 : ((l1.length : Int) != ((row l0 0).length : Int)) = false := by simp; omega
  have hmf : ∀ (fn : Fn) (first cap : Array Value) (w : World), (Instr.makeFunc fn first cap).run Try.prog w = .ok (.func fn first cap) w := fun _ _ _ _ => rfl
  have HL : Hid ((column l1).length = l1.length) := column_length l1
  have HML : Hid ((matrix l0.length 1 (fun i j => ((prod l0 (column l1) i j : Nat) : Int))).length = l0.length) := hlen
  clear hMade hTimes hCat hfirst hrow hlen hm hne hrc rtc okc ok
  generalize (List.range l0.length).map (fun i => ((mv l1.length (byt l0) (vb l1) i : Nat) : Int)) = res at *
  generalize hmat : matrix l0.length 1 (fun i j => ((prod l0 (column l1) i j : Nat) : Int)) = mat at *
  generalize column l1 = col at *
  generalize row l0 0 = r at *
  clear hmat
  go_enter Try.func34, Try.ntmps34
  go_wp2
  refine start_ (n := 12) (S := fun w' => w'.cell? ⟨w.heap.size, 0, none⟩ = some (.slice A1 l1.length c1) ∧ w'.cell? adm = some (.slice A2 r.length c2)) (ds := []) #[false, false, false, false, false, false, false, false, false, false, false, false] (by kernel_rfl) rfl rfl ⟨hca, hcell2⟩ (fun hHeld => ?_)
  refine pure_ (i := 0) (N := some 9) (v := ?_) (a' := ?_) #[true, false, false, false, false, false, false, false, false, false, false, false] rfl rfl (by kernel_rfl) (fun _ _ _ h => h) (Or.inl ⟨by rfl, ?_⟩) ?_ ?_
  rotate_left
  · intro w'
    go_simp
    with_reducible rfl
  rotate_left
  · simp only [Act.put, List.setIfInBounds_toArray, List.set_cons_zero, List.set_cons_succ, i64_w, i32_w]
    rfl
  refine one_ (i := 1) (N := some 10) #[true, true, false, false, false, false, false, false, false, false, false, false] rfl rfl (by kernel_rfl) (by decide) (fun K hK => ?_)
  refine goes_ Try.func27 (by kernel_rfl) rfl #[.slice (some adm) l0.length c0] (by rfl) rfl rfl (by simp only [List.map_toArray, List.map_cons, List.map_nil]; rfl) ?_
  refine Calls.mono (HR.out _ hb1.drew) ?_
  rintro e w2 ⟨rfl, hb⟩
  refine ⟨_, rfl, ?_⟩
  refine hK.out _ _ ⟨(hb.cell (p := ⟨w.heap.size, 0, none⟩) (by simp)).trans hca, (hb.cell (p := adm) (by simp; omega)).trans hcell2⟩ (fun hHeld => ?_)
  clear hK K
  refine norm_ (a' := ?_) ?_ ?_
  rotate_left
  · show Act.put _ (some 10) _ = _
    simp only [Act.put, List.setIfInBounds_toArray, List.set_cons_zero, List.set_cons_succ, i64_w, i32_w]
    rfl
  refine pure_ (i := 2) (N := some 11) (v := ?_) (a' := ?_) #[true, true, true, false, false, false, false, false, false, false, false, false] rfl rfl (by kernel_rfl) (fun _ _ _ h => h) (Or.inl ⟨by rfl, ?_⟩) ?_ ?_
  rotate_left
  · intro w'
    go_simp
    with_reducible rfl
  rotate_left
  · simp only [Act.put, List.setIfInBounds_toArray, List.set_cons_zero, List.set_cons_succ, i64_w, i32_w]
    rfl
  refine pure_ (i := 3) (N := some 12) (v := ?_) (a' := ?_) #[true, true, true, true, false, false, false, false, false, false, false, false] rfl rfl (by kernel_rfl) (fun _ _ _ h => h) (Or.inl ⟨by rfl, ?_⟩) ?_ ?_
  rotate_left
  · intro w'
    go_simp
    with_reducible rfl
  rotate_left
  · simp only [Act.put, List.setIfInBounds_toArray, List.set_cons_zero, List.set_cons_succ, i64_w, i32_w]
    rfl
  refine pure_ (i := 6) (N := some 15) (v := ?_) (a' := ?_) #[true, true, true, true, false, false, true, false, false, false, false, false] rfl rfl (by kernel_rfl) (fun _ _ _ h => h) (Or.inl ⟨by rfl, ?_⟩) ?_ ?_
  rotate_left
  · intro w'
    go_simp
    with_reducible rfl
  rotate_left
  · simp only [Act.put, List.setIfInBounds_toArray, List.set_cons_zero, List.set_cons_succ, i64_w, i32_w]
    rfl
  refine pure_ (i := 7) (N := some 16) (v := ?_) (a' := ?_) #[true, true, true, true, false, false, true, true, false, false, false, false] rfl rfl (by kernel_rfl) (fun _ _ _ h => h) (Or.inl ⟨by rfl, ?_⟩) ?_ ?_
  rotate_left
  · intro w'
    go_simp
    with_reducible rfl
  rotate_left
  · simp only [Act.put, List.setIfInBounds_toArray, List.set_cons_zero, List.set_cons_succ, i64_w, i32_w]
    rfl
  refine take_ (i := 4) (N := some 13) (v := ?_) (a' := ?_) #[true, true, true, true, true, false, true, true, false, false, false, false] rfl rfl (by kernel_rfl) (fun _ _ _ h => h) (Or.inl ⟨by rfl, ?_⟩) hHeld ?_ ?_
  rotate_left
  · rintro w' ⟨s0, s1⟩
    go_simp
    with_reducible rfl
  rotate_left
  · simp only [Act.put, List.setIfInBounds_toArray, List.set_cons_zero, List.set_cons_succ, i64_w, i32_w]
    rfl
  refine pure_ (i := 5) (N := some 14) (v := ?_) (a' := ?_) #[true, true, true, true, true, true, true, true, false, false, false, false] rfl rfl (by kernel_rfl) (fun _ _ _ h => h) (Or.inl ⟨by rfl, ?_⟩) ?_ ?_
  rotate_left
  · intro w'
    go_simp
    with_reducible rfl
  rotate_left
  · simp only [Act.put, List.setIfInBounds_toArray, List.set_cons_zero, List.set_cons_succ, i64_w, i32_w]
    rfl
  refine take_ (i := 8) (N := some 17) (v := ?_) (a' := ?_) #[true, true, true, true, true, true, true, true, true, false, false, false] rfl rfl (by kernel_rfl) (fun _ _ _ h => h) (Or.inl ⟨by rfl, ?_⟩) hHeld ?_ ?_
  rotate_left
  · rintro w' ⟨s0, s1⟩
    go_simp
    with_reducible rfl
  rotate_left
  · simp only [Act.put, List.setIfInBounds_toArray, List.set_cons_zero, List.set_cons_succ, i64_w, i32_w]
    rfl
  refine pure_ (i := 9) (N := some 18) (v := ?_) (a' := ?_) #[true, true, true, true, true, true, true, true, true, true, false, false] rfl rfl (by kernel_rfl) (fun _ _ _ h => h) (Or.inl ⟨by rfl, ?_⟩) ?_ ?_
  rotate_left
  · intro w'
    go_simp
    with_reducible rfl
  rotate_left
  · simp only [Act.put, List.setIfInBounds_toArray, List.set_cons_zero, List.set_cons_succ, i64_w, i32_w]
    rfl
  refine pure_ (i := 10) (N := some 19) (v := ?_) (a' := ?_) #[true, true, true, true, true, true, true, true, true, true, true, false] rfl rfl (by kernel_rfl) (fun _ _ _ h => h) (Or.inl ⟨by rfl, ?_⟩) ?_ ?_
  rotate_left
  · intro w'
    go_simp
    with_reducible rfl
  rotate_left
  · simp only [Act.put, List.setIfInBounds_toArray, List.set_cons_zero, List.set_cons_succ, i64_w, i32_w]
    rfl
  refine pure_ (i := 11) (N := some 20) (v := ?_) (a' := ?_) #[true, true, true, true, true, true, true, true, true, true, true, true] rfl rfl (by kernel_rfl) (fun _ _ _ h => h) (Or.inl ⟨by rfl, ?_⟩) ?_ ?_
  rotate_left
  · intro w'
    go_simp
    with_reducible rfl
  rotate_left
  · simp only [Act.put, List.setIfInBounds_toArray, List.set_cons_zero, List.set_cons_succ, i64_w, i32_w]
    rfl
  refine done_ (by kernel_rfl) ?_
  have hB2 := hb1.drew.trans (hb.mono (by simp))
  have hA2 : w2.cell? ⟨w.heap.size, 0, none⟩ = some (.slice A1 l1.length c1) := (hb.cell (p := ⟨w.heap.size, 0, none⟩) (by simp)).trans hca
  clear hca hcell2
  go_wp2_with (first | (go_at_call 39; refine Calls.mono (HM.out _ hB2 hA2) ?_; rintro e w4 ⟨v4, rfl, hS4, hb4⟩; obtain ⟨Ao, co, rfl, hle4, hO4⟩ := Kd.S_reads hS4; have hB4 := hB2.trans (hb4.mono hB2.size)) | (go_at_call 31; refine Calls.mono (HT.out _ Ao co hB4 hO4) ?_; rintro e w5 ⟨v5, rfl, hS5, hb5⟩; obtain ⟨Ap, cp, rfl, hle5, hO5⟩ := Kd.S_reads hS5; rw [HML.out] at hO5 hle5 hS5 ⊢) | (go_at_call 61; refine Calls.mono (HC.out _ Ap cp hO5) ?_; rintro e w6 ⟨v6, rfl, hR6, hb6⟩))
  go_ret2
  have hB5 := hB4.trans (hb5.mono hB4.size)
  exact ⟨_, rfl, Kd.R_lower hR6 hB5.size, hB5.trans (hb6.mono hB5.size)⟩
end Go.Proofs.Ytgoacbbaiigpeaa.Gf
end
