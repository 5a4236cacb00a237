/-
  Rows told, beside a stream that grows; Add where it gives up.
-/
import Derived.Test.YtjnicooboiijgaaSgSm
set_option linter.unusedVariables false
set_option linter.unusedSimpArgs false
namespace Go.Proofs.Ytjnicooboiijgaa.Sg
open Go.RowKit Go.Proofs.YtjnicooboiijgaaW.PrintWords Go.Proofs.YtjnicooboiijgaaW.PrintLast Go.Proofs.YtjnicooboiijgaaW.PrintMore Go.Proofs.Ytjnicooboiijgaa.PSg Go.Proofs.Ytjnicooboiijgaa.Gf Go.Proofs.Ytjnicooboiijgaa.Rs
theorem rd_row (l : List (List Int)) (i : Nat) : rd_L1 l (i : Int) = Gf.row l i := by unfold rd_L1 Gf.row; rw [Int.toNat_natCast]
theorem KB_cell {W : World} {g n : Nat} {xs : List Int} {y : Nat} (h : KB.C W (some ⟨g, 0, none⟩) n xs) (hy : y < n) : W.cell? ⟨g, y, none⟩ = some (.int .u8 (xs.getD y 0)) := by
  obtain ⟨h1, h2, h3⟩ := h
  obtain ⟨ad, e, h4⟩ := h3 (by omega)
  obtain rfl := Option.some.inj e
  have hx : xs[y]? = some (xs.getD y 0) := by rw [List.getD_eq_getElem?_getD, List.getElem?_eq_getElem (by rw [h1]; exact hy)]; rfl
  obtain ⟨c, _, hk, h5⟩ := h4 y _ hx
  have hk' : c = [.int .u8 (xs.getD y 0)] := hk
  have := h5 0 (.int .u8 (xs.getD y 0)) (by rw [hk']; rfl)
  rw [Addr.add_mid] at this
  simpa [KB, Kd.int, Kd.scalar] using this
theorem byte_at {xs : List Int} (h : bytes xs = true) (y : Nat) : ∃ b : Nat, xs.getD y 0 = (b : Int) ∧ b < 256 := by
  unfold bytes at h
  rw [List.all_eq_true] at h
  rw [List.getD_eq_getElem?_getD]
  rcases hq : xs[y]? with _ | q
  · exact ⟨0, rfl, by omega⟩
  · have := h q (List.mem_of_getElem? hq)
    simp only [Bool.and_eq_true, decide_eq_true_eq] at this
    exact ⟨q.toNat, by simp only [Option.getD_some]; omega, by omega⟩
theorem bytes_of {xs : List Int} (hw : ∀ x ∈ xs, (Lit.int .u8 x).wf = true) : bytes xs = true := by
  unfold bytes
  rw [List.all_eq_true]
  intro x hx
  have := hw x hx
  have e2 : IntKind.u8.min ≤ x ∧ x ≤ IntKind.u8.max := by simpa [Lit.wf] using this
  have h1 : IntKind.u8.min = 0 := rfl
  have h2 : IntKind.u8.max = 255 := rfl
  rw [h1, h2] at e2
  simp only [Bool.and_eq_true, decide_eq_true_eq]
  omega
theorem u64_of {a : Int} (h : (Lit.int .u64 a).wf = true) : ∃ n : Nat, a = n ∧ n < 18446744073709551616 := by
  have e2 : IntKind.u64.min ≤ a ∧ a ≤ IntKind.u64.max := by simpa [Lit.wf] using h
  have h1 : IntKind.u64.min = 0 := rfl
  have h2 : IntKind.u64.max = 18446744073709551615 := rfl
  rw [h1, h2] at e2
  exact ⟨a.toNat, by omega, by omega⟩
/-- Rows of rows of the call's own, none of which lies in the block s. -/
structure OwnS (W : World) (base : Nat) (s : Option Nat) (hds : List Hd) (P : List (List (List Int))) : Prop where
  len : hds.length = P.length
  rows : ∀ (i : Nat) (x : Hd), hds[i]? = some x → ∃ hs : List Hd, x.2.1 = hs.length ∧ KH.R 37 W base (fun _ => True) (.slice x.1 x.2.1 x.2.2) hs ∧ hs.length = (P.getD i []).length ∧
    ∀ (j : Nat) (y : Hd), hs[j]? = some y → y.2.1 = (Gf.row (P.getD i []) j).length ∧ y.2.1 ≤ y.2.2 ∧ KB.R 5 W base (fun k => s ≠ some k) (.slice y.1 y.2.1 y.2.2) (Gf.row (P.getD i []) j)
theorem OwnS.move {W W1 : World} {base : Nat} {s s' : Option Nat} {hds : List Hd} {P : List (List (List Int))} (h : OwnS W base s hds P)
    (h1 : ∀ v xs, KH.R 37 W base (fun _ => True) v xs → KH.R 37 W1 base (fun _ => True) v xs) (h2 : ∀ v xs, KB.R 5 W base (fun k => s ≠ some k) v xs → KB.R 5 W1 base (fun k => s' ≠ some k) v xs) : OwnS W1 base s' hds P :=
  ⟨h.len, fun i x hx => by
    obtain ⟨hs, a1, a2, a3, a4⟩ := h.rows i x hx
    exact ⟨hs, a1, h1 _ _ a2, a3, fun j y hy => by obtain ⟨b1, b2, b3⟩ := a4 j y hy; exact ⟨b1, b2, h2 _ _ b3⟩⟩⟩
theorem OwnS.nil (W : World) (base : Nat) (s : Option Nat) : OwnS W base s [] [] := ⟨rfl, fun i x hx => by simp at hx⟩
theorem OwnS.of {W1 : World} {base base' : Nat} {s : Option Nat} {hds : List Hd} {P : List (List (List Int))} (h : OwnP W1 base hds P) (hb : base' ≤ base) (hs : ∀ k, s = some k → k < base) : OwnS W1 base' s hds P :=
  ⟨h.len, fun i x hx => by
    obtain ⟨hds', a1, a2, a3⟩ := h.rows i x hx
    exact ⟨hds', a1, Kd.R_lower a2 hb, a3.len, fun j y hy => by
      obtain ⟨b1, b2, b3⟩ := a3.rows j y hy
      exact ⟨b1, b2, Kd.R_mono (Kd.R_lower (Kd.R_bound b3) hb) (fun k hk e => by have := hs k e; have := hk.2.1; omega)⟩⟩⟩
theorem OwnS.below {W W1 : World} {base : Nat} {s : Option Nat} {hds : List Hd} {P : List (List (List Int))} (h : OwnS W base s hds P) (hb : Below W.heap.size W W1) : OwnS W1 base s hds P :=
  h.move (fun _ _ h => Kd.R_below h hb) (fun _ _ h => Kd.R_below h hb)
/-- A row of another element type grows. -/
theorem OwnS.over {W W1 : World} {base : Nat} {s : Option Nat} {hds : List Hd} {P : List (List (List Int))} (h : OwnS W base s hds P) {α : Type} {d : Kd α} {e base' : Nat} {ok : Nat → Prop} {v : Value} {xs : List α} (hv : d.R e W base' ok v xs) (h37 : e ≠ 37) (h5 : e ≠ 5) (hg : W.grownBy W1 v.ownBlock) : OwnS W1 base s hds P :=
  h.move (fun _ _ h => Kd.R_over h hv (by simp [KH, Kd.scalar]; exact fun e => h37 e.symm) hg) (fun _ _ h => Kd.R_over h hv (by simp [KB, Kd.int, Kd.scalar]; exact fun e => h5 e.symm) hg)
theorem OwnS.keepW {W W' : World} {base g k pgs sz seg sz' : Nat} {s : Option Nat} {hds : List Hd} {P : List (List (List Int))} {rest : Value} (h : OwnS W base s hds P) (hW : Wr W g k pgs sz seg sz' rest) (hk : KeepBut W W' g none) : OwnS W' base s hds P :=
  h.move (fun _ _ h => Sg.keepW h (by simp [KH, Kd.scalar]) hW hk) (fun _ _ h => Kd.R_mono (Kd.R_keep (Kd.R_bound h) hk fun j hj ej => by
    subst ej
    obtain ⟨_, _, _, q, hq, cells, hc⟩ := hj
    unfold Wr at hW
    rw [hW] at hc
    obtain ⟨_, rfl⟩ : _ ∧ (75 : Nat) = q := by simpa using hc
    simp [KB, Kd.int, Kd.scalar] at hq) (fun _ h => h.1))
/-- The stream grows. -/
theorem OwnS.grow {W W1 : World} {base : Nat} {s s' : Option Nat} {hds : List Hd} {P : List (List (List Int))} (h : OwnS W base s hds P) (hg : W.grownBy W1 s) (hs : ∀ k, s' = some k → s = some k ∨ W.heap.size ≤ k) (h37 : ∀ k, s = some k → ∃ cs, W.heap[k]? = some (.cells cs 5 (0, 0))) : OwnS W1 base s' hds P :=
  h.move (fun v xs h => Kd.R_mono (Kd.R_step (Kd.R_bound h) fun j hj hlt => hg.block j hlt (fun e => by
      obtain ⟨cs, hc⟩ := h37 j e.symm
      obtain ⟨_, _, _, q, hq, cells, hc'⟩ := hj
      rw [hc] at hc'
      obtain ⟨_, rfl⟩ : _ ∧ (5 : Nat) = q := by simpa using hc'
      simp [KH, Kd.scalar] at hq)) (fun _ _ => trivial))
    (fun v xs h => Kd.R_mono (Kd.R_step (Kd.R_bound h) fun j hj hlt => hg.block j hlt (fun e => hj.1 e.symm)) (fun k hk e => by
      rcases hs k e with h1 | h1
      · exact hk.1 h1
      · have := hk.2.2.1; omega))
theorem OwnS.append {W : World} {base : Nat} {s : Option Nat} {hds hds' : List Hd} {P P' : List (List (List Int))} (h : OwnS W base s hds P) (h' : OwnS W base s hds' P') : OwnS W base s (hds ++ hds') (P ++ P') := by
  refine ⟨by simp [h.len, h'.len], fun i x hx => ?_⟩
  rcases Nat.lt_or_ge i hds.length with hi | hi
  · rw [List.getElem?_append_left hi] at hx
    have e : (P ++ P').getD i [] = P.getD i [] := by rw [List.getD_eq_getElem?_getD, List.getElem?_append_left (by rw [← h.len]; exact hi), List.getD_eq_getElem?_getD]
    rw [e]
    exact h.rows i x hx
  · rw [List.getElem?_append_right hi] at hx
    have e : (P ++ P').getD i [] = P'.getD (i - hds.length) [] := by rw [List.getD_eq_getElem?_getD, List.getElem?_append_right (by rw [← h.len]; exact hi), h.len, List.getD_eq_getElem?_getD]
    rw [e]
    exact h'.rows _ x hx
/-- A told row as a slice of slices. -/
theorem OwnS.row {W : World} {base : Nat} {s : Option Nat} {hds : List Hd} {P : List (List (List Int))} (h : OwnS W base s hds P) {i : Nat} {x : Hd} (hx : hds[i]? = some x) : x.2.1 = (P.getD i []).length ∧ x.2.1 ≤ x.2.2 ∧ KR.C W x.1 (P.getD i []).length (P.getD i []) := by
  obtain ⟨hs, a1, a2, a3, a4⟩ := h.rows i x hx
  have hC := (Kd.R_reads' a2)
  have hR : Rs.Rows W hs (P.getD i []) := ⟨a3, fun j y hy => by
    obtain ⟨b1, b2, b3⟩ := a4 j y hy
    have h1 := (Kd.R_reads' b3).2.2
    rw [← b1] at h1
    exact ⟨b1, b2, h1⟩⟩
  have h2 := KR_of_KH hC.2.2 hR
  rw [a3] at h2
  exact ⟨by rw [a1, a3], hC.2.1, h2⟩
set_option maxHeartbeats 8000000 in
set_option maxRecDepth 100000 in
theorem add17_nil (w : World) (g : Nat) (A : Option Addr) (c : Nat) : Calls Try.prog 17 #[.pointer (some ⟨g, 0, none⟩), .slice A 0 c] w fun e w' => e = .returned (.tuple #[.int .i64 0, .slice none 0 0, .int .i64 1]) ∧ Below w.heap.size w w' := by
  go_enter Try.func17, Try.ntmps17
  go_wp2_with fail
  go_ret3
  exact ⟨rfl, Below.refl _ _⟩
set_option maxHeartbeats 8000000 in
set_option maxRecDepth 100000 in
theorem add17_full (w : World) (g k pgs sz seg s : Nat) (rest : Value) (hf : Fits k pgs sz) (hW : Wr w g k pgs sz seg s rest) (hs : s ≤ k * roomN sz * (pgs - 1)) (A : Option Addr) (n c : Nat) (h0 : 0 < n) (hn : k * roomN sz * (pgs - 1) < s + n) : Calls Try.prog 17 #[.pointer (some ⟨g, 0, none⟩), .slice A n c] w fun e w' => e = .returned (.tuple #[.int .i64 0, .slice none 0 0, .int .i64 5]) ∧ Below w.heap.size w w' := by
  have HL := Aside0.mk (left20 w g k pgs sz seg s rest hf hW hs)
  have c1 : ((n : Int) == 0) = false := beq_eq_false_iff_ne.mpr (by omega)
  have c2 : decide (((k * roomN sz * (pgs - 1) - s : Nat) : Int) < (n : Int)) = true := decide_eq_true (by omega)
  have c3 : k * roomN sz * (pgs - 1) - s < n := by omega
  generalize k * roomN sz * (pgs - 1) - s = D at *
  clear hf hW hs hn
  go_enter Try.func17, Try.ntmps17
  go_wp2_with (go_at_call 20; refine Calls.mono HL.out ?_; rintro e w1 ⟨rfl, hb⟩; have HB := Aside0.mk hb; clear hb)
  go_ret3
  exact ⟨rfl, HB.out⟩
end Go.Proofs.Ytjnicooboiijgaa.Sg
