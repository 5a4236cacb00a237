/-
  slices.Clip, frame.Number.
-/
import Derived.Test.YtjnicooboiijgaaMRb
import Derived.ArgAppend
set_option linter.unusedVariables false
set_option linter.unusedSimpArgs false
namespace Go.Proofs.Ytjnicooboiijgaa.Sg
open Go.RowKit Go.Proofs.YtjnicooboiijgaaW.PrintWords Go.Proofs.YtjnicooboiijgaaW.PrintLast Go.Proofs.YtjnicooboiijgaaW.PrintMore Go.Proofs.Ytjnicooboiijgaa.PSg Go.Proofs.Ytjnicooboiijgaa.Gf Go.Proofs.Ytjnicooboiijgaa.Rs
/-- Bytes behind which one appends: a row without room of whoever it is, or a row of the call's own. -/
def Ap (w0 W : World) (v : Value) (xs : List Int) : Prop := (∃ A, v = .slice A xs.length xs.length ∧ KB.C W A xs.length xs) ∨ KB.R 5 W w0.heap.size (fun _ => True) v xs
theorem Ap.below {w0 W W1 : World} {v : Value} {xs : List Int} (h : Ap w0 W v xs) (hb : Below W.heap.size W W1) : Ap w0 W1 v xs := by
  rcases h with ⟨A, h1, h2⟩ | h
  · exact .inl ⟨A, h1, Kd.C_below h2 hb⟩
  · exact .inr (Kd.R_below h hb)
section
variable {P : Program} {ops : Array Oper} {rest : List Oper} {o : Oper} {a : Act} {Q : Exit → Act → World → Prop}
theorem append_ap {w0 W : World} (hgd : o.guard = none) (s x : Operand) (t : TypeId)
    (ho : o.op = .call { callee := .builtin .append, args := #[s, x], argTypes := #[t, t] })
    (ht : P.underlying t = some (.slice 5)) (hinfo : (P.info? 5).map (fun i => (i.zero, i.size, i.bytes)) = some (some (.int .u8 0), 1, 1))
    (v : Value) (xs : List Int) (p : Int) (hs : a.eval s = v) (hx : a.eval x = .slice (some ⟨W.heap.size, 0, none⟩) 1 1)
    (HO : Ap w0 W v xs) (HB : Below w0.heap.size w0 W) (hl : xs.length < 140737488355328)
    (h : ∀ v1 w1, KB.R 5 w1 w0.heap.size (fun _ => True) v1 (xs ++ [p]) → Below w0.heap.size w0 w1 → wpList P ops Q rest (a.put o.dst v1) w1) :
    wpList P ops Q (o :: rest) a (W.alloc (.cells #[.int .u8 p] 5)) := by
  rcases HO with ⟨A, rfl, hC⟩ | HO
  · obtain ⟨i0, hi, hzz⟩ := Option.map_eq_some_iff.1 hinfo
    simp only [Prod.mk.injEq] at hzz
    obtain ⟨hz0, hz1, hz2⟩ := hzz
    have hba := below_alloc (Below.refl W.heap.size W) (.cells #[.int .u8 p] 5)
    have hC1 := Kd.C_below hC hba
    refine wpList_append_grows (W.alloc (.cells #[.int .u8 p] 5)) hgd s x t ho 5 i0 (.int .u8 0) 1 1 ht hi hz0 hz1 hz2 rfl (by decide) A xs.length xs.length (encs (fun y => Value.int .u8 y) xs) hs ?_ (by simp [encs]) ?_ ⟨W.heap.size, 0, none⟩ 1 1 [.int .u8 p] hx rfl ?_ ?_ (Nat.lt_succ_self _) (by unfold maxLen; omega) (by omega) ?_
    · intro e
      subst e
      have : xs.length = 0 := by
        rcases Nat.eq_zero_or_pos xs.length with h0 | h0
        · exact h0
        · obtain ⟨ad, e, _⟩ := hC.2.2 h0
          cases e
      exact ⟨this, this⟩
    · intro b e j u hj
      subst e
      obtain ⟨hjl, hu⟩ := List.getElem?_eq_some_iff.1 hj
      have hjx : j < xs.length := by simpa [encs] using hjl
      obtain ⟨ad', ea, hc⟩ := hC1.2.2 (by omega)
      obtain rfl : b = ad' := by injection ea
      obtain ⟨c, _, hk, h5⟩ := hc j _ (List.getElem?_eq_getElem hjx)
      have hk' : c = [.int .u8 xs[j]] := hk
      have := h5 0 (.int .u8 xs[j]) (by rw [hk']; rfl)
      rw [← hu]
      simpa [KB, Kd.int, Kd.scalar, encs] using this
    · intro j u hj
      match j, hj with
      | 0, hj =>
        obtain rfl := Option.some.inj hj
        rw [Addr.add_mid, cell_of_row _ W.heap.size 0 _ 5 (0, 0) (heap_alloc_last W _)]
        rfl
    · intro u hu
      rw [List.mem_singleton] at hu
      subst hu
      rfl
    · intro v1 w1 hown hg
      refine h v1 w1 ?_ ((HB.alloc HB.size _).grown hg (by have := HB.size; simp; omega) (fun k hk => by cases hk))
      have h1 : KB.R 5 w1 (W.alloc (.cells #[.int .u8 p] 5)).heap.size (fun _ => True) v1 (xs ++ [p]) := Kd.R_of_own (by
        rw [List.length_append, List.length_singleton]
        simpa [encs] using hown) (fun _ _ => trivial)
      exact Kd.R_lower h1 (by have := HB.size; simp; omega)
  · exact Kd.R_append KB (w0 := w0) w0.heap.size hgd s x t 5 (.int .u8 0) 1 ho ht hinfo rfl (by decide) (by decide) v xs p [.int .u8 p] (fun _ => True) (fun _ => False) hs hx rfl (fun _ hk => hk.elim) (fun _ _ => trivial) HO HB HB.size (by omega) (fun v1 w1 h1 h2 _ _ => h v1 w1 h1 h2)
end
set_option maxHeartbeats 8000000 in
set_option maxRecDepth 100000 in
theorem clip61 (w : World) (A : Option Addr) (n c : Nat) (hc : n ≤ c) (hA : A = none → c = 0) : Calls Try.prog 61 #[.slice A n c] w fun e w' => e = .returned (.slice A n n) ∧ Below w.heap.size w w' := by
  rcases A with _ | ad
  · obtain rfl := hA rfl
    obtain rfl : n = 0 := by omega
    clear hA hc
    go_enter Try.func61, Try.ntmps61
    go_wp2_with fail
    go_ret
    exact ⟨rfl, Below.refl _ _⟩
  · clear hA
    have c1 : (n : Int) ≤ (c : Int) := by omega
    go_enter Try.func61, Try.ntmps61
    go_wp2_with fail
    go_ret
    exact ⟨rfl, Below.refl _ _⟩
set_option maxHeartbeats 8000000 in
set_option maxRecDepth 100000 in
theorem num45 (w0 w : World) (A : Option Addr) (c : Nat) (xs : List Int) (x : Nat) (K : Nat) (r : List Int) (hC : KB.C w A xs.length xs) (hc : xs.length ≤ c) (hA : A = none → c = 0) (hB : Below w0.heap.size w0 w) (h : flintref1_Number.f K xs (x : Int) = some r) :
    Calls Try.prog 45 #[.slice A xs.length c, .int .u64 x] w fun e w' => ∃ v', e = .returned v' ∧ KB.R 5 w' w0.heap.size (fun _ => True) v' r ∧ Below w0.heap.size w0 w' := by
  have HL := Aside0.mk (fun (W : World) => clip61 W A xs.length c hc hA)
  have HB := Aside0.mk hB
  have HC := Aside0.mk hC
  have HF := Aside0.mk (show flintref1_Number.l0 K xs (x : Int) = some r from h)
  obtain ⟨n, hn⟩ : ∃ n, xs.length = n := ⟨_, rfl⟩
  rw [hn] at HC HL ⊢
  have HN := Aside0.mk hn
  clear hC hc hA hB h hn
  go_enter Try.func45, Try.ntmps45
  go_wp2_with (go_at_call 61; refine Calls.mono (HL.out _) ?_; rintro e w1 ⟨rfl, hb⟩; have HB1 := Aside0.mk (below_then HB.out HB.out.size hb); have HC1 := Aside0.mk (Kd.C_below HC.out hb); clear hb)
  go_loopw [0, 1] (fun bv xv W => ∃ (ys : List Int) (y K : Nat), xv = .int .u64 (y : Nat) ∧ Aside0 (flintref1_Number.l0 K ys (y : Int) = some r) ∧ Aside0 (Ap w0 W bv ys) ∧ Aside0 (Below w0.heap.size w0 W)) (fun _ xv _ => (intOf xv).toNat)
  case atStart => exact ⟨xs, x, K, rfl, HF, ⟨.inl ⟨A, by rw [HN.out], by rw [HN.out]; exact HC1.out⟩⟩, HB1⟩
  case round =>
    obtain ⟨ys, y, K2, rfl, HF2, HA2, HB2⟩ := hrel
    obtain _ | K2 := K2
    · exact absurd HF2.out (by simp [flintref1_Number.l0])
    have H := HF2.out
    simp only [flintref1_Number.l0] at H
    clear HF2
    by_cases hy : (y : Int) ≥ 128
    · rw [if_pos hy] at H
      by_cases hl : ys.length < 140737488355328
      · rw [if_pos hl] at H
        have HLL := Aside0.mk hl
        have HH := Aside0.mk H
        have d1 : decide (128 ≤ (y : Int)) = true := decide_eq_true hy
        have d2 : decide (128 ≤ y) = true := decide_eq_true (by omega)
        have HY := Aside0.mk hy
        clear H hl hy
        go_wp2_with (first
          | ((with_reducible refine gate_builtin (b := .append) (xs := #[.tmp 9, .tmp 13]) rfl ?_)
             refine append_ap (w0 := w0) rfl (.tmp 9) (.tmp 13) 37 rfl Try.underlying37 Go.Proofs.Ytjnicooboiijgaa.PSg.info5 u0 ys (Go.bits .or .u8 ((y : Int) % 256) 128) rfl rfl HA2.out HB2.out HLL.out ?_
             intro v5 w5 h5 hb5
             have HA5 := Aside0.mk (show Ap w0 w5 v5 _ from .inr h5)
             have HB5 := Aside0.mk hb5
             clear h5 hb5 HA2 HB2))
        all_goals go_roundw
        case measure => have := HY.out; simp [intOf]; omega
        case rel => exact ⟨_, y / 128, K2, by rw [show ((y / 128 : Nat) : Int) = (y : Int) / 128 by omega], ⟨by rw [show ((y / 128 : Nat) : Int) = (y : Int) / 128 by omega]; exact HH.out⟩, HA5, HB5⟩
      · rw [if_neg hl] at H
        cases H
    · rw [if_neg hy] at H
      by_cases hl : ys.length < 140737488355328
      · rw [if_pos hl] at H
        have HLL := Aside0.mk hl
        have HH := Aside0.mk (Option.some.inj H)
        have d1 : decide (128 ≤ (y : Int)) = false := decide_eq_false hy
        have d2 : decide (128 ≤ y) = false := decide_eq_false (by omega)
        clear H hl hy
        go_wp2_with (first
          | ((with_reducible refine gate_builtin (b := .append) (xs := #[.tmp 17, .tmp 20]) rfl ?_)
             refine append_ap (w0 := w0) rfl (.tmp 17) (.tmp 20) 37 rfl Try.underlying37 Go.Proofs.Ytjnicooboiijgaa.PSg.info5 u0 ys ((y : Int) % 256) rfl rfl HA2.out HB2.out HLL.out ?_
             intro v5 w5 h5 hb5
             have HA5 := Aside0.mk h5
             have HB5 := Aside0.mk hb5
             clear h5 hb5 HA2 HB2))
        go_ret
        exact ⟨_, rfl, by rw [← HH.out]; exact HA5.out, HB5.out⟩
      · rw [if_neg hl] at H
        cases H
end Go.Proofs.Ytjnicooboiijgaa.Sg
