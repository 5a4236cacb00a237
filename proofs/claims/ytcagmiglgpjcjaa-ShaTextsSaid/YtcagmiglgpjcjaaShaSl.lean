/-
  slices.Grow of nil, slices.Concat of rows of bytes, slices.Clone of bytes.
-/
import Derived.Test.YtcagmiglgpjcjaaShaRow
import Derived.Lib.AppendZerosOnto
import Derived.Lib.Walk
import Derived.Lib.SliceRun
set_option linter.unusedVariables false
set_option linter.unusedSimpArgs false
namespace Go.Proofs.Ytcagmiglgpjcjaa.Sh
open Go.RowKit Go.Proofs.YtcagmiglgpjcjaaW.PrintWords Go.Proofs.YtcagmiglgpjcjaaW.PrintLast Go.Proofs.Ytcagmiglgpjcjaa.PSa

abbrev KBs := Kd.int .u8
abbrev KR := Kd.slice 5 (Kd.int .u8)
def row (l : List (List Int)) (i : Nat) : List Int := l.getD i []
theorem rows_at {w : World} {A : Option Addr} {n : Nat} {l : List (List Int)} (h : KR.C w A n l) {i : Nat} (hi : i < n) :
    ∃ ad A' c', A = some ad ∧ w.cell? (ad.add i) = some (.slice A' (row l i).length c') ∧ (row l i).length ≤ c' ∧ KBs.C w A' (row l i).length (row l i) := by
  obtain ⟨ad, c, e, _, hK, hc⟩ := Kd.C_get h ([] : List Int) (i : Int) (by omega) (by omega)
  obtain ⟨A', c', rfl, h1, h2⟩ := hK
  refine ⟨ad, A', c', e, ?_, h1, h2⟩
  have := hc 0 _ rfl
  rwa [show KR.sz = 1 from rfl, Nat.mul_one, Nat.add_zero, Int.toNat_natCast] at this
set_option maxHeartbeats 2000000 in
theorem grow29 (w : World) (n : Nat) (h1 : 1 ≤ n) (hn : n ≤ 1000000) :
    Calls Try.prog 29 #[.slice none 0 0, .int .i64 n] w fun e w' => ∃ G cur, e = .returned (.slice (some ⟨w.heap.size, 0, none⟩) 0 G) ∧ G ≤ maxLen ∧ cur.size = G ∧ w' = w.drew.alloc (.cells cur 5) := by
  obtain ⟨i, hi, h⟩ := Option.map_eq_some_iff.1 info5
  simp only [Prod.mk.injEq] at h
  obtain ⟨h0, hs, hb⟩ := h
  have hr : ∀ ty, (Builtin.append_ #[23, 3] ty #[.slice none 0 0, .int .i64 (n : Int)]).run Try.prog w = .ok (.slice (some ⟨w.heap.size, 0, none⟩) (0 + n) (grownCap w (0 + n) 0 5)) (w.drew.alloc (.cells ((([] : List Value).toArray ++ Builtin.zeroCells (Value.int .u8 0).cells n) ++ Builtin.zeroCells (Value.int .u8 0).cells (grownCap w (0 + n) 0 5 - (0 + n))) 5)) := fun ty =>
    Lib.run_append_grow_zeros w 23 3 ty 5 i (.int .u8 0) .i64 .i64 Try.underlying23 Try.underlying3 hi h0 none 0 0 [] (run_firstCells_none w.drew i.size 0 0 0) n (by omega) (by omega) (by omega) (by omega) (by rw [hb]; omega) (by rw [hb]; exact growslice_fits (by omega) (by omega))
  have hge : 0 + n ≤ grownCap w (0 + n) 0 5 := grownCap_ge w _ _ _
  have hmx : grownCap w (0 + n) 0 5 ≤ maxLen := grownCap_le_maxLen w (0 + n) 0 5 (by unfold maxLen; omega)
  generalize grownCap w (0 + n) 0 5 = G at *
  rw [Nat.zero_add] at hr hge
  have hsz : ((([] : List Value).toArray ++ Builtin.zeroCells (Value.int .u8 0).cells n) ++ Builtin.zeroCells (Value.int .u8 0).cells (G - n)).size = G := by
    simp [Builtin.zeroCells, Value.cells]
    omega
  generalize ((([] : List Value).toArray ++ Builtin.zeroCells (Value.int .u8 0).cells n) ++ Builtin.zeroCells (Value.int .u8 0).cells (G - n)) = cur at *
  have q1 : decide ((n : Int) < 0) = false := decide_eq_false (by omega)
  have q2 : decide (0 < (n : Int)) = true := decide_eq_true (by omega)
  have q3 : (0 : Int) < (n : Int) := by omega
  have q4 : 0 < n := by omega
  go_enter Try.func29, Try.ntmps29
  go_wp2_with (at_builtin; refine Lib.wpList_append_run _ rfl _ _ _ _ rfl _ _ rfl rfl _ _ (hr _) ?_)
  go_ret
  exact ⟨G, cur, rfl, hmx, hsz, rfl⟩

theorem growAny (w : World) (n : Nat) (hn : n ≤ 1000000) :
    Calls Try.prog 29 #[.slice none 0 0, .int .i64 n] w fun e w' => ∃ v0_ : Value, e = .returned v0_ ∧ Kd.R KBs 5 w' w.heap.size (fun _ => True) v0_ [] ∧ Below w.heap.size w w' := by
  by_cases h : 1 ≤ n
  · refine (grow29 w n h hn).mono ?_
    rintro e w2 ⟨G, cur, rfl, hG, hsz, rfl⟩
    refine ⟨_, rfl, Kd.R_of_own ⟨by simp [encs], .inr ⟨w.heap.size, G, cur, rfl, Nat.le_refl _, heap_alloc_new _ _, by simp, hG, by simp [hsz], by simp [encs]⟩⟩ (fun _ _ => trivial), (Below.refl _ _).drew.alloc (Nat.le_refl _) _⟩
  · obtain rfl : n = 0 := by omega
    go_enter Try.func29, Try.ntmps29
    go_wp2
    go_ret
    exact ⟨_, rfl, Kd.R_nil _ _ _ _ _, Below.refl _ _⟩
/-- The first rows, joined. -/
def joinK (l : List (List Int)) (k : Nat) : List Int := (l.take k).flatten
theorem joinK_succ (l : List (List Int)) (k : Nat) (h : k < l.length) : joinK l (k + 1) = joinK l k ++ row l k := by
  simp only [joinK, row]
  rw [List.take_add_one, List.flatten_append, List.getElem?_eq_getElem h, List.getD_eq_getElem?_getD, List.getElem?_eq_getElem h]
  simp
theorem joinK_all (l : List (List Int)) : joinK l l.length = l.flatten := by simp [joinK]
theorem joinK_le (l : List (List Int)) (k : Nat) : (joinK l k).length ≤ l.flatten.length := by
  have : l.flatten = joinK l k ++ (l.drop k).flatten := by rw [joinK, ← List.flatten_append, List.take_append_drop]
  rw [this]
  simp
set_option maxHeartbeats 4000000 in
theorem concat22 (w : World) (l : List (List Int)) (A : Option Addr) (c n : Nat) (hC : KR.C w A n l) (hl : l.length = n) (h1 : n ≤ 1000000) (hn : l.flatten.length ≤ 1000000) :
    Calls Try.prog 22 #[.slice A n c] w fun e w' => ∃ v0_ : Value, e = .returned v0_ ∧ Kd.R KBs 5 w' w.heap.size (fun _ => True) v0_ l.flatten ∧ Below w.heap.size w w' := by
  subst hl
  go_enter Try.func22, Try.ntmps22
  go_wp2
  go_loopw [11, 3, 5] (fun v u _ wr => ∃ k : Nat, k ≤ l.length ∧ v = .int .i64 (k : Nat) ∧ u = .int .i64 ((joinK l k).length : Nat) ∧ Below w.heap.size w wr) (fun v _ _ _ => l.length - (intOf v).toNat)
  case atStart => exact ⟨0, Nat.zero_le _, rfl, rfl, Below.refl _ _⟩
  case round =>
    obtain ⟨k, hk, rfl, rfl, hB⟩ := hrel
    by_cases hlt : k < l.length
    · obtain ⟨ad, A', c', rfl, hcell, hle, hI⟩ := rows_at (Kd.C_below hC hB) hlt
      have hj := joinK_le l (k + 1)
      have hjs := joinK_succ l k hlt
      rw [hjs, List.length_append] at hj
      have HJ := Aside0.mk hjs
      clear hjs
      have q1 : (0 : Int) ≤ (k : Int) := by omega
      have q2 : (k : Int) < (l.length : Int) := by omega
      have b0 : wrap64 (((joinK l k).length : Int) + ((row l k).length : Int)) = ((joinK l k).length : Int) + ((row l k).length : Int) := by unfold wrap64; omega
      have b1 : decide (((joinK l k).length : Int) + ((row l k).length : Int) < 0) = false := decide_eq_false (by omega)
      go_wp2
      go_roundw
      case rel => exact ⟨k + 1, by omega, by go_num, by rw [HJ.out, List.length_append]; go_num, hB⟩
      case measure => simp [intOf]; omega
    · obtain rfl : k = l.length := by omega
      have HG := Aside0.mk (growAny wr (joinK l l.length).length (by have := joinK_le l l.length; omega))
      go_wp2_with (go_at_call 29; with_reducible refine HG.out.mono ?_; rintro e w3 ⟨u0, rfl, hR0, hB0⟩)
      replace hR0 := Kd.R_lower hR0 hB.size
      replace hB0 := below_then hB hB.size hB0
      have HC0 := Aside0.mk hC
      clear hC hB HG
      have HN := Aside0.mk hn
      clear hn
      go_loopw [27, 6, 8] (fun v u _ wx => ∃ k : Nat, k ≤ l.length ∧ v = .int .i64 (k : Nat) ∧ Kd.R KBs 5 wx w.heap.size (fun _ => True) u (joinK l k) ∧ Below w.heap.size w wx) (fun v _ _ _ => l.length - (intOf v).toNat)
      case atStart => exact ⟨0, Nat.zero_le _, rfl, hR0, hB0⟩
      case round =>
        clear hR0 hB0
        obtain ⟨k, hk, rfl, hR, hB⟩ := hrel
        by_cases hlt : k < l.length
        · obtain ⟨ad, A', c', rfl, hcell, hle, hI⟩ := rows_at (Kd.C_below HC0.out hB) hlt
          have hlen := joinK_le l (k + 1)
          have hjs := joinK_succ l k hlt
          rw [hjs, List.length_append] at hlen
          have hlen2 := HN.out
          have q1 : (0 : Int) ≤ (k : Int) := by omega
          have q2 : (k : Int) < (l.length : Int) := by omega
          have HR := Aside0.mk hR
          have HI := Aside0.mk hI
          have HJ := Aside0.mk hjs
          have HL := Aside0.mk (show ((joinK l k).length + (row l k).length) * 1 ≤ 140737488355328 by omega)
          clear hR hI hjs hlen hlen2
          go_wp2_with (refine Kd.R_append_rows KBs (w0 := w) w.heap.size rfl (.tmp 31) (.tmp 32) 23 5 (.int .u8 0) 1 rfl Try.underlying23 info5 rfl (by decide) (by omega) u6 (joinK l k) (row l k) _ _ _ (fun _ => True) (fun _ => False) rfl rfl HR.out HI.out (fun _ _ h => h) (fun _ h => h.elim) (fun _ _ => trivial) hB hB.size HL.out ?_; intro v1 w1 ho hb hg hat)
          rw [← HJ.out] at ho
          go_roundw
          case rel => exact ⟨k + 1, by omega, by go_num, ho, hb⟩
          case measure => simp [intOf]; omega
        · obtain rfl : k = l.length := by omega
          rw [joinK_all] at hR
          go_wp2
          go_ret
          exact ⟨_, rfl, hR, hB⟩
set_option maxHeartbeats 2000000 in
theorem clone24 (w : World) (l : List Int) (A : Option Addr) (c n : Nat) (hC : KBs.C w A n l) (hl : l.length = n) (hn : n ≤ 1000000) :
    Calls Try.prog 24 #[.slice A n c] w fun e w' => ∃ v0_ : Value, e = .returned v0_ ∧ Kd.R KBs 5 w' w.heap.size (fun _ => True) v0_ l ∧ Below w.heap.size w w' := by
  subst hl
  cases A with
  | none =>
    have hnil : l = [] := by
      by_cases h : 0 < l.length
      · obtain ⟨ad, e, _⟩ := hC.2.2 h
        cases e
      · exact List.eq_nil_of_length_eq_zero (by omega)
    subst hnil
    have he := fun w => Go.Lib.run_eql_slice_nil (P := Try.prog) w 23 5 none 0 c 0 0 Try.underlying23
    go_enter Try.func24, Try.ntmps24
    go_wp2
    go_ret
    exact ⟨_, rfl, Kd.R_nil _ _ _ _ _, Below.refl _ _⟩
  | some ad =>
    have HC := Aside0.mk hC
    clear hC
    have he := fun w => Go.Lib.run_eql_slice_nil (P := Try.prog) w 23 5 (some ad) l.length c 0 0 Try.underlying23
    have HE := Aside0.mk (show Kd.R KBs 5 (w.alloc (.cells #[] 5)) w.heap.size (fun _ => True) (.slice (some ⟨w.heap.size, 0, none⟩) 0 0) [] from
      Kd.R_of_own ⟨by simp [encs], .inr ⟨w.heap.size, 0, #[], rfl, Nat.le_refl _, heap_alloc_new _ _, by simp, by unfold maxLen; omega, by simp, by simp [encs]⟩⟩ (fun _ _ => trivial))
    have HC2 := Aside0.mk (Kd.C_alloc HC.out (.cells #[] 5))
    have HB := Aside0.mk (below_alloc (Below.refl w.heap.size w) (.cells #[] 5))
    have HL := Aside0.mk (show (([] : List Int).length + l.length) * 1 ≤ 140737488355328 by simp; omega)
    clear HC
    go_enter Try.func24, Try.ntmps24
    go_wp2_with ((with_reducible refine gate_dst (N := 7) rfl ?_); refine Kd.R_append_rows KBs (w0 := w) w.heap.size rfl (.tmp 5) (.tmp 6) 23 5 (.int .u8 0) 1 rfl Try.underlying23 info5 rfl (by decide) (by omega) _ [] l _ _ _ (fun _ => True) (fun _ => False) rfl rfl HE.out HC2.out (fun _ _ h => h) (fun _ h => h.elim) (fun _ _ => trivial) HB.out HB.out.size HL.out ?_; intro v1 w1 ho hb hg hat)
    go_ret
    exact ⟨_, rfl, ho, hb⟩
end Go.Proofs.Ytcagmiglgpjcjaa.Sh
