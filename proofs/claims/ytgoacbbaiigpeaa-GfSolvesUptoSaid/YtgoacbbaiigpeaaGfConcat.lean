/-
  slices.Grow of nil, slices.Concat of rows of one byte each.
-/
import Derived.Test.YtgoacbbaiigpeaaGfExt
import Derived.Lib.AppendZerosOnto
import Derived.Lib.Walk
set_option linter.unusedVariables false
set_option linter.unusedSimpArgs false
namespace Go.Proofs.Ytgoacbbaiigpeaa.Gf
open Go.RowKit Go.Proofs.YtgoacbbaiigpeaaW.PrintWords Go.Proofs.YtgoacbbaiigpeaaW.PrintLast Go.Proofs.Ytgoacbbaiigpeaa.PGa

set_option maxHeartbeats 2000000 in
theorem grow66 (w : World) (n : Nat) (h1 : 1 ≤ n) (hn : n ≤ 255) :
    Calls Try.prog 66 #[.slice none 0 0, .int .i64 n] w fun e w' => ∃ G cur, e = .returned (.slice (some ⟨w.heap.size, 0, none⟩) 0 G) ∧ G ≤ maxLen ∧ cur.size = G ∧ w' = w.drew.alloc (.cells cur 5) := by
  obtain ⟨i, hi, h⟩ := Option.map_eq_some_iff.1 info5
  simp only [Prod.mk.injEq] at h
  obtain ⟨h0, hs, hb⟩ := h
  have hr : ∀ ty, (Builtin.append_ #[53, 3] ty #[.slice none 0 0, .int .i64 (n : Int)]).run Try.prog w = .ok (.slice (some ⟨w.heap.size, 0, none⟩) (0 + n) (grownCap w (0 + n) 0 5)) (w.drew.alloc (.cells ((([] : List Value).toArray ++ Builtin.zeroCells (Value.int .u8 0).cells n) ++ Builtin.zeroCells (Value.int .u8 0).cells (grownCap w (0 + n) 0 5 - (0 + n))) 5)) := fun ty =>
    Lib.run_append_grow_zeros w 53 3 ty 5 i (.int .u8 0) .i64 .i64 Try.underlying53 Try.underlying3 hi h0 none 0 0 [] (run_firstCells_none w.drew i.size 0 0 0) n (by omega) (by omega) (by omega) (by omega) (by rw [hb]; omega) (by rw [hb]; exact growslice_fits (by omega) (by omega))
  have hge : 0 + n ≤ grownCap w (0 + n) 0 5 := grownCap_ge w _ _ _
  have hmx : grownCap w (0 + n) 0 5 ≤ maxLen := grownCap_le_maxLen w (0 + n) 0 5 (by unfold maxLen; omega)
  generalize grownCap w (0 + n) 0 5 = G at *
  rw [Nat.zero_add] at hr hge
  have hsz : ((([] : List Value).toArray ++ Builtin.zeroCells (Value.int .u8 0).cells n) ++ Builtin.zeroCells (Value.int .u8 0).cells (G - n)).size = G := by
    simp [Builtin.zeroCells, Value.cells]
    omega
  generalize ((([] : List Value).toArray ++ Builtin.zeroCells (Value.int .u8 0).cells n) ++ Builtin.zeroCells (Value.int .u8 0).cells (G - n)) = cur at *
  have q1 : decide ((n : Int) < 0) = false := decide_eq_false (by omega)
  have q2 : decide (0 < (n : Int)) = true := decide_eq_true (by omega)
  have q3 : (0 : Int) < (n : Int) := by omega
  have q4 : 0 < n := by omega
  go_enter Try.func66, Try.ntmps66
  go_wp2_with (at_builtin; refine Lib.wpList_append_run _ rfl _ _ _ _ rfl _ _ rfl rfl _ _ (hr _) ?_)
  go_ret
  exact ⟨G, cur, rfl, hmx, hsz, rfl⟩
def firsts (l : List (List Int)) (k : Nat) : List Int := (List.range k).map fun i => (row l i).getD 0 0
theorem firsts_succ (l : List (List Int)) (k : Nat) : firsts l (k + 1) = firsts l k ++ [(row l k).getD 0 0] := by simp [firsts, List.range_succ]
theorem firsts_length (l : List (List Int)) (k : Nat) : (firsts l k).length = k := by simp [firsts]
theorem one_row {l : List (List Int)} {k : Nat} (h : (row l k).length = 1) : row l k = [(row l k).getD 0 0] := by
  match hr : row l k, h with
  | [a], _ => rfl
set_option maxHeartbeats 4000000 in
theorem concat61 (w : World) (l : List (List Int)) (A : Option Addr) (c n : Nat) (hC : KR.C w A n l) (hl : l.length = n) (h1 : 1 ≤ n) (hn : n ≤ 255) (hrow : ∀ i, i < n → (row l i).length = 1) :
    Calls Try.prog 61 #[.slice A n c] w fun e w' => ∃ v0_ : Value, e = .returned v0_ ∧ Kd.R (Kd.int .u8) 5 w' w.heap.size (fun _ => True) v0_ (firsts l n) ∧ Below w.heap.size w w' := by
  subst hl
  go_enter Try.func61, Try.ntmps61
  go_wp2
  go_loopw [11, 3] (fun v u wr => ∃ k : Nat, k ≤ l.length ∧ v = .int .i64 (k : Nat) ∧ u = .int .i64 (k : Nat) ∧ Below w.heap.size w wr) (fun v _ _ => l.length - (intOf v).toNat)
  case atStart => exact ⟨0, Nat.zero_le _, rfl, rfl, Below.refl _ _⟩
  case round =>
    obtain ⟨k, hk, rfl, rfl, hB⟩ := hrel
    by_cases hlt : k < l.length
    · obtain ⟨ad, A', c', rfl, hcell, hle, hI⟩ := rows_at (Kd.C_below hC hB) hlt
      rw [hrow k hlt] at hcell hle
      have q1 : (0 : Int) ≤ (k : Int) := by omega
      have q2 : (k : Int) < (l.length : Int) := by omega
      have b1 : decide ((k : Int) + 1 < 0) = false := decide_eq_false (by omega)
      go_wp2
      go_roundw
      case rel => exact ⟨k + 1, by omega, by go_num, by go_num, hB⟩
      case measure => simp [intOf]; omega
    · obtain rfl : k = l.length := by omega
      have HG := grow66 wr l.length h1 hn
      go_wp2_with (go_at_call 66; refine HG.mono ?_; rintro e w2 ⟨G, cur, rfl, hG, hsz, rfl⟩)
      have hR0 : Kd.R (Kd.int .u8) 5 (wr.alloc (.cells cur 5)).drew w.heap.size (fun _ => True) (.slice (some ⟨wr.heap.size, 0, none⟩) 0 G) (firsts l 0) := by
        refine Kd.R_of_own ⟨?_, .inr ⟨wr.heap.size, G, cur, ?_, hB.size, heap_alloc_new wr _, ?_, ?_, ?_, ?_⟩⟩ (fun _ _ => trivial)
        · simp [encs, firsts]
        · simp [firsts]
        · simp [firsts]
        · exact hG
        · simp [hsz]
        · simp [encs, firsts]
      have hB0 : Below w.heap.size w (wr.alloc (.cells cur 5)).drew := (hB.alloc hB.size _).drew
      have HRow : Hid (∀ i, i < l.length → (row l i).length = 1) := hrow
      have HC0 : Hid (KR.C w A l.length l) := hC
      clear hrow hC hB
      generalize (wr.alloc (.cells cur 5)).drew = w3 at *
      go_loopw [27, 6] (fun v u wx => ∃ k : Nat, k ≤ l.length ∧ v = .int .i64 (k : Nat) ∧ Kd.R (Kd.int .u8) 5 wx w.heap.size (fun _ => True) u (firsts l k) ∧ Below w.heap.size w wx) (fun v _ _ => l.length - (intOf v).toNat)
      case atStart => exact ⟨0, Nat.zero_le _, rfl, hR0, hB0⟩
      case round =>
        clear hR0 hB0
        obtain ⟨k, hk, rfl, hR, hB⟩ := hrel
        by_cases hlt : k < l.length
        · obtain ⟨ad, A', c', rfl, hcell, hle, hI⟩ := rows_at (Kd.C_below HC0.out hB) hlt
          have hone := one_row (HRow.out k hlt)
          rw [HRow.out k hlt] at hcell hle hI
          have q1 : (0 : Int) ≤ (k : Int) := by omega
          have q2 : (k : Int) < (l.length : Int) := by omega
          have HR : Hid (Kd.R (Kd.int .u8) 5 wr w.heap.size (fun _ => True) u6 (firsts l k)) := hR
          have HI : Hid (KB.C wr A' 1 (row l k)) := hI
          have HO : Hid (row l k = [(row l k).getD 0 0]) := hone
          have HL : Hid ((firsts l k).length = k) := firsts_length l k
          have HS : Hid (firsts l (k + 1) = firsts l k ++ [(row l k).getD 0 0]) := firsts_succ l k
          clear hR hI hone
          go_wp2_with (refine Kd.R_append_rows (Kd.int .u8) (w0 := w) w.heap.size rfl (.tmp 31) (.tmp 32) 53 5 (.int .u8 0) 1 rfl Try.underlying53 info5 rfl (by decide) (by omega) u6 (firsts l k) (row l k) _ _ _ (fun _ => True) (fun _ => False) rfl rfl HR.out HI.out (fun _ _ h => h) (fun _ h => h.elim) (fun _ _ => trivial) hB hB.size (by rw [HL.out]; omega) ?_; intro v1 w1 ho hb hg hat)
          rw [HO.out, ← HS.out] at ho
          go_roundw
          case rel => exact ⟨k + 1, by omega, by go_num, ho, hb⟩
          case measure => simp [intOf]; omega
        · obtain rfl : k = l.length := by omega
          go_wp2
          go_ret
          exact ⟨_, rfl, hR, hB⟩
end Go.Proofs.Ytgoacbbaiigpeaa.Gf
