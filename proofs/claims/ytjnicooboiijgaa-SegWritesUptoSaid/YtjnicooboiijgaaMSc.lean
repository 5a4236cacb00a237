/- Several texts of this session laid together: SgPe, SgPl, SgSm, SgHq, SgUl, SgHp, SgHs, SgPq. -/
import Derived.Test.YtjnicooboiijgaaMSb
import Derived.Test.YtjnicooboiijgaaPSgx8
import Derived.Test.YtjnicooboiijgaaPSgx3
section
/-
  seg.Pages where something is wrong.
-/
set_option linter.unusedVariables false
set_option linter.unusedSimpArgs false
namespace Go.Proofs.Ytjnicooboiijgaa.Sg
open Go.RowKit Go.Proofs.YtjnicooboiijgaaW.PrintWords Go.Proofs.YtjnicooboiijgaaW.PrintLast Go.Proofs.YtjnicooboiijgaaW.PrintMore Go.Proofs.Ytjnicooboiijgaa.PSg Go.Proofs.Ytjnicooboiijgaa.Gf Go.Proofs.Ytjnicooboiijgaa.Rs
end Go.Proofs.Ytjnicooboiijgaa.Sg
end

section
/-
  seg.Where, seg.Span, flintlaw9.SegPlaces.
-/
set_option linter.unusedVariables false
set_option linter.unusedSimpArgs false
namespace Go.Proofs.Ytjnicooboiijgaa.Sg
open Go.RowKit Go.Proofs.YtjnicooboiijgaaW.PrintWords Go.Proofs.YtjnicooboiijgaaW.PrintLast Go.Proofs.YtjnicooboiijgaaW.PrintMore Go.Proofs.Ytjnicooboiijgaa.PSg Go.Proofs.Ytjnicooboiijgaa.Gf Go.Proofs.Ytjnicooboiijgaa.Rs
/-- A shape is none, or one that fits. -/
theorem check_any (x y z : Int) : seg_Check.f x y z = some 1 ∨ ∃ k p s : Nat, Fits k p s ∧ x = k ∧ y = p ∧ z = s := by
  unfold seg_Check.f frame_Room.f
  by_cases h1 : x < 1
  · left; rw [if_pos h1]
  rw [if_neg h1]
  by_cases h2 : x > 32
  · left; rw [if_pos h2]
  rw [if_neg h2]
  by_cases h3 : y < 2
  · left; rw [if_pos h3]
  rw [if_neg h3]
  by_cases h4 : y > 4096
  · left; rw [if_pos h4]
  rw [if_neg h4]
  by_cases h5 : z < 32
  · left; rw [if_pos h5]; rfl
  rw [if_neg h5]
  by_cases h6 : z > 65536
  · left; rw [if_pos h6]; rfl
  right
  exact ⟨x.toNat, y.toNat, z.toNat, ⟨by omega, by omega, by omega, by omega, by omega, by omega⟩, by omega, by omega, by omega⟩
theorem i64w {x : Int} (h1 : -9223372036854775808 ≤ x) (h2 : x ≤ 9223372036854775807) : wrap64 x = x := by unfold wrap64; omega
theorem i64n {n : Nat} (h : n ≤ 9223372036854775807) : wrap64 ((n : Nat) : Int) = ((n : Nat) : Int) := i64w (by omega) (by omega)
/-- Where two bytes lie. -/
theorem places {k c p a b : Nat} (hc : 0 < c) (hk : 0 < k) (hab : a ≤ b) (hb : b < k * c * (p - 1)) :
    1 + b / (k * c) < p ∧ a % (k * c) / c < k ∧ b % (k * c) / c < k ∧ ((a = b) ∨ a / (k * c) < b / (k * c) ∨ (a / (k * c) = b / (k * c) ∧ (a % (k * c) / c < b % (k * c) / c ∨ (a % (k * c) / c = b % (k * c) / c ∧ a % c < b % c)))) := by
  have hN : 0 < k * c := Nat.mul_pos hk hc
  have h1 : b / (k * c) < p - 1 := Nat.div_lt_of_lt_mul hb
  have h2 : ∀ x, x % (k * c) / c < k := fun x => Nat.div_lt_of_lt_mul (by rw [Nat.mul_comm c k]; exact Nat.mod_lt _ hN)
  refine ⟨(fun q h => by omega : ∀ q, q < p - 1 → 1 + q < p) _ h1, h2 a, h2 b, ?_⟩
  have h3 : a / (k * c) ≤ b / (k * c) := Nat.div_le_div_right hab
  rcases Nat.lt_or_eq_of_le h3 with h | h
  · exact .inr (.inl h)
  have ea := Nat.div_add_mod a (k * c)
  have eb := Nat.div_add_mod b (k * c)
  rw [h] at ea
  have hm : a % (k * c) ≤ b % (k * c) := by omega
  have h4 : a % (k * c) / c ≤ b % (k * c) / c := Nat.div_le_div_right hm
  rcases Nat.lt_or_eq_of_le h4 with h5 | h5
  · exact .inr (.inr ⟨h, .inl h5⟩)
  have ma : a % (k * c) % c = a % c := Nat.mod_mul_left_mod _ _ _
  have mb : b % (k * c) % c = b % c := Nat.mod_mul_left_mod _ _ _
  have fa := Nat.div_add_mod (a % (k * c)) c
  have fb := Nat.div_add_mod (b % (k * c)) c
  rw [h5, ma] at fa
  rw [mb] at fb
  rcases Nat.lt_or_eq_of_le hab with h6 | h6
  · right; right; refine ⟨h, .inr ⟨h5, ?_⟩⟩; omega
  · exact .inl h6
-- CASES (printed by mkpl.py)
end Go.Proofs.Ytjnicooboiijgaa.Sg
end

section
/-
  flintlaw9.Small, the reference's Check, seg.Pages at any row.
-/
set_option linter.unusedVariables false
set_option linter.unusedSimpArgs false
namespace Go.Proofs.Ytjnicooboiijgaa.Sg
open Go.RowKit Go.Proofs.YtjnicooboiijgaaW.PrintWords Go.Proofs.YtjnicooboiijgaaW.PrintLast Go.Proofs.YtjnicooboiijgaaW.PrintMore Go.Proofs.Ytjnicooboiijgaa.PSg Go.Proofs.Ytjnicooboiijgaa.Gf Go.Proofs.Ytjnicooboiijgaa.Rs
theorem rroom_no {z : Int} (h : z < 32 ∨ 65536 < z) : flintref1_Room.f 1 z = some 0 := by
  unfold flintref1_Room.f
  by_cases h1 : z < 32
  · rw [if_pos h1]; rfl
  · rw [if_neg h1]
    have : decide (z > 65536) = true := decide_eq_true (by omega)
    rw [this]; rfl
theorem rroom_yes {s : Nat} (h1 : 32 ≤ s) (h2 : s ≤ 65536) : flintref1_Room.f 1 (s : Int) = some ((roomN s : Nat) : Int) := by
  unfold flintref1_Room.f
  rw [if_neg (by omega)]
  have : decide ((s : Int) > 65536) = false := decide_eq_false (by omega)
  rw [this]
  unfold flintref1_Room.j0
  dsimp only
  have hw : wrap64 ((s : Int) - 19) = ((s - 19 : Nat) : Int) := by unfold wrap64; omega
  rw [hw, if_neg (by simp), if_neg (by omega)]
  unfold roomN
  rw [if_neg (by omega), Nat.min_eq_left (by omega)]
theorem rcheck_yes {k p s : Nat} (hf : Fits k p s) : flintref9_Check.f 1 k p s = some 0 := by
  have h := room_pos hf.s1 hf.s2
  have := hf.k1; have := hf.k2; have := hf.p1; have := hf.p2
  unfold flintref9_Check.f
  rw [if_neg (by omega), if_neg (by omega), if_neg (by omega), if_neg (by omega), rroom_yes hf.s1 hf.s2]
  simp only [Option.bind_some]
  rw [if_neg (by omega)]
theorem rcheck_no {x y z : Int} (h : seg_Check.f x y z = some 1) : flintref9_Check.f 1 x y z = some 1 := by
  unfold seg_Check.f frame_Room.f at h
  unfold flintref9_Check.f
  by_cases h1 : x < 1
  · rw [if_pos h1]
  rw [if_neg h1] at h ⊢
  by_cases h2 : x > 32
  · rw [if_pos h2]
  rw [if_neg h2] at h ⊢
  by_cases h3 : y < 2
  · rw [if_pos h3]
  rw [if_neg h3] at h ⊢
  by_cases h4 : y > 4096
  · rw [if_pos h4]
  rw [if_neg h4] at h ⊢
  by_cases h5 : z < 32 ∨ 65536 < z
  · rw [rroom_no h5]; rfl
  · have hr := room_pos (sz := z.toNat) (by omega) (by omega)
    have e := room_eq z.toNat (by omega) (by omega)
    rw [show ((z.toNat : Nat) : Int) = z by omega] at e
    unfold frame_Room.f at e
    rw [e] at h
    simp only [Option.bind_some] at h
    rw [if_neg (by omega)] at h
    simp at h
theorem small9_no (W : World) {x y z : Int} (h : seg_Check.f x y z = some 1) : Calls Try.prog 9 #[.agg #[.int .i64 x, .int .i64 y, .int .i64 z]] W fun e w' => e = .returned (.bool true) ∧ Below W.heap.size W w' := by
  have h := flintlaw9_Small.calls 1 x y z true W (by unfold flintlaw9_Small.f flintlaw9_Of.f; simp only [Option.bind_some]; rw [rcheck_no h]; rfl)
  first | exact h | exact h.mono fun e w' ⟨h1, h2⟩ => ⟨h1, h2.below⟩
theorem small9_yes (W : World) {k p s : Nat} (hf : Fits k p s) (b : Bool) (hb : b = decide (s ≤ 600 ∧ k ≤ 12)) : Calls Try.prog 9 #[.agg #[.int .i64 k, .int .i64 p, .int .i64 s]] W fun e w' => e = .returned (.bool b) ∧ Below W.heap.size W w' := by
  have h := flintlaw9_Small.calls 1 k p s b W (by
    unfold flintlaw9_Small.f flintlaw9_Of.f; simp only [Option.bind_some]; rw [rcheck_yes hf]
    simp only [Option.bind_some, if_true]
    rw [hb]
    by_cases h : s ≤ 600
    · rw [if_pos (by omega)]
      simp [h]
      omega
    · rw [if_neg (by omega)]
      simp [h])
  first | exact h | exact h.mono fun e w' ⟨h1, h2⟩ => ⟨h1, h2.below⟩
end Go.Proofs.Ytjnicooboiijgaa.Sg
end

section
/-
  Rows told, beside a stream that grows; Add where it gives up.
-/
set_option linter.unusedVariables false
set_option linter.unusedSimpArgs false
namespace Go.Proofs.Ytjnicooboiijgaa.Sg
open Go.RowKit Go.Proofs.YtjnicooboiijgaaW.PrintWords Go.Proofs.YtjnicooboiijgaaW.PrintLast Go.Proofs.YtjnicooboiijgaaW.PrintMore Go.Proofs.Ytjnicooboiijgaa.PSg Go.Proofs.Ytjnicooboiijgaa.Gf Go.Proofs.Ytjnicooboiijgaa.Rs
theorem byte_at {xs : List Int} (h : bytes xs = true) (y : Nat) : ∃ b : Nat, xs.getD y 0 = (b : Int) ∧ b < 256 := by
  unfold bytes at h
  rw [List.all_eq_true] at h
  rw [List.getD_eq_getElem?_getD]
  rcases hq : xs[y]? with _ | q
  · exact ⟨0, rfl, by omega⟩
  · have := h q (List.mem_of_getElem? hq)
    simp only [Bool.and_eq_true, decide_eq_true_eq] at this
    exact ⟨q.toNat, by simp only [Option.getD_some]; omega, by omega⟩
theorem bytes_of {xs : List Int} (hw : ∀ x ∈ xs, (Lit.int .u8 x).wf = true) : bytes xs = true := by
  unfold bytes
  rw [List.all_eq_true]
  intro x hx
  have := hw x hx
  have e2 : IntKind.u8.min ≤ x ∧ x ≤ IntKind.u8.max := by simpa [Lit.wf] using this
  have h1 : IntKind.u8.min = 0 := rfl
  have h2 : IntKind.u8.max = 255 := rfl
  rw [h1, h2] at e2
  simp only [Bool.and_eq_true, decide_eq_true_eq]
  omega
theorem u64_of {a : Int} (h : (Lit.int .u64 a).wf = true) : ∃ n : Nat, a = n ∧ n < 18446744073709551616 := by
  have e2 : IntKind.u64.min ≤ a ∧ a ≤ IntKind.u64.max := by simpa [Lit.wf] using h
  have h1 : IntKind.u64.min = 0 := rfl
  have h2 : IntKind.u64.max = 18446744073709551615 := rfl
  rw [h1, h2] at e2
  exact ⟨a.toNat, by omega, by omega⟩
/-- Rows of rows of the call's own, none of which lies in the block s. -/
structure OwnS (W : World) (base : Nat) (s : Option Nat) (hds : List Hd) (P : List (List (List Int))) : Prop where
  len : hds.length = P.length
  rows : ∀ (i : Nat) (x : Hd), hds[i]? = some x → ∃ hs : List Hd, x.2.1 = hs.length ∧ KH.R 37 W base (fun _ => True) (.slice x.1 x.2.1 x.2.2) hs ∧ hs.length = (P.getD i []).length ∧
    ∀ (j : Nat) (y : Hd), hs[j]? = some y → y.2.1 = (Gf.row (P.getD i []) j).length ∧ y.2.1 ≤ y.2.2 ∧ KB.R 5 W base (fun k => s ≠ some k) (.slice y.1 y.2.1 y.2.2) (Gf.row (P.getD i []) j)
theorem OwnS.move {W W1 : World} {base : Nat} {s s' : Option Nat} {hds : List Hd} {P : List (List (List Int))} (h : OwnS W base s hds P)
    (h1 : ∀ v xs, KH.R 37 W base (fun _ => True) v xs → KH.R 37 W1 base (fun _ => True) v xs) (h2 : ∀ v xs, KB.R 5 W base (fun k => s ≠ some k) v xs → KB.R 5 W1 base (fun k => s' ≠ some k) v xs) : OwnS W1 base s' hds P :=
  ⟨h.len, fun i x hx => by
    obtain ⟨hs, a1, a2, a3, a4⟩ := h.rows i x hx
    exact ⟨hs, a1, h1 _ _ a2, a3, fun j y hy => by obtain ⟨b1, b2, b3⟩ := a4 j y hy; exact ⟨b1, b2, h2 _ _ b3⟩⟩⟩
theorem OwnS.nil (W : World) (base : Nat) (s : Option Nat) : OwnS W base s [] [] := ⟨rfl, fun i x hx => by simp at hx⟩
theorem OwnS.of {W1 : World} {base base' : Nat} {s : Option Nat} {hds : List Hd} {P : List (List (List Int))} (h : OwnP W1 base hds P) (hb : base' ≤ base) (hs : ∀ k, s = some k → k < base) : OwnS W1 base' s hds P :=
  ⟨h.len, fun i x hx => by
    obtain ⟨hds', a1, a2, a3⟩ := h.rows i x hx
    exact ⟨hds', a1, Kd.R_lower a2 hb, a3.len, fun j y hy => by
      obtain ⟨b1, b2, b3⟩ := a3.rows j y hy
      exact ⟨b1, b2, Kd.R_mono (Kd.R_lower (Kd.R_bound b3) hb) (fun k hk e => by have := hs k e; have := hk.2.1; omega)⟩⟩⟩
theorem OwnS.below {W W1 : World} {base : Nat} {s : Option Nat} {hds : List Hd} {P : List (List (List Int))} (h : OwnS W base s hds P) (hb : Below W.heap.size W W1) : OwnS W1 base s hds P :=
  h.move (fun _ _ h => Kd.R_below h hb) (fun _ _ h => Kd.R_below h hb)
/-- A row of another element type grows. -/
theorem OwnS.over {W W1 : World} {base : Nat} {s : Option Nat} {hds : List Hd} {P : List (List (List Int))} (h : OwnS W base s hds P) {α : Type} {d : Kd α} {e base' : Nat} {ok : Nat → Prop} {v : Value} {xs : List α} (hv : d.R e W base' ok v xs) (h37 : e ≠ 37) (h5 : e ≠ 5) (hg : W.grownBy W1 v.ownBlock) : OwnS W1 base s hds P :=
  h.move (fun _ _ h => Kd.R_over h hv (by simp [KH, Kd.scalar]; exact fun e => h37 e.symm) hg) (fun _ _ h => Kd.R_over h hv (by simp [KB, Kd.int, Kd.scalar]; exact fun e => h5 e.symm) hg)
theorem OwnS.keepW {W W' : World} {base g k pgs sz seg sz' : Nat} {s : Option Nat} {hds : List Hd} {P : List (List (List Int))} {rest : Value} (h : OwnS W base s hds P) (hW : Wr W g k pgs sz seg sz' rest) (hk : KeepBut W W' g none) : OwnS W' base s hds P :=
  h.move (fun _ _ h => Sg.keepW h (by simp [KH, Kd.scalar]) hW hk) (fun _ _ h => Kd.R_mono (Kd.R_keep (Kd.R_bound h) hk fun j hj ej => by
    subst ej
    obtain ⟨_, _, _, q, hq, cells, hc⟩ := hj
    unfold Wr at hW
    rw [hW] at hc
    obtain ⟨_, rfl⟩ : _ ∧ (75 : Nat) = q := by simpa using hc
    simp [KB, Kd.int, Kd.scalar] at hq) (fun _ h => h.1))
/-- The stream grows. -/
theorem OwnS.grow {W W1 : World} {base : Nat} {s s' : Option Nat} {hds : List Hd} {P : List (List (List Int))} (h : OwnS W base s hds P) (hg : W.grownBy W1 s) (hs : ∀ k, s' = some k → s = some k ∨ W.heap.size ≤ k) (h37 : ∀ k, s = some k → ∃ cs, W.heap[k]? = some (.cells cs 5 (0, 0))) : OwnS W1 base s' hds P :=
  h.move (fun v xs h => Kd.R_mono (Kd.R_step (Kd.R_bound h) fun j hj hlt => hg.block j hlt (fun e => by
      obtain ⟨cs, hc⟩ := h37 j e.symm
      obtain ⟨_, _, _, q, hq, cells, hc'⟩ := hj
      rw [hc] at hc'
      obtain ⟨_, rfl⟩ : _ ∧ (5 : Nat) = q := by simpa using hc'
      simp [KH, Kd.scalar] at hq)) (fun _ _ => trivial))
    (fun v xs h => Kd.R_mono (Kd.R_step (Kd.R_bound h) fun j hj hlt => hg.block j hlt (fun e => hj.1 e.symm)) (fun k hk e => by
      rcases hs k e with h1 | h1
      · exact hk.1 h1
      · have := hk.2.2.1; omega))
theorem OwnS.append {W : World} {base : Nat} {s : Option Nat} {hds hds' : List Hd} {P P' : List (List (List Int))} (h : OwnS W base s hds P) (h' : OwnS W base s hds' P') : OwnS W base s (hds ++ hds') (P ++ P') := by
  refine ⟨by simp [h.len, h'.len], fun i x hx => ?_⟩
  rcases Nat.lt_or_ge i hds.length with hi | hi
  · rw [List.getElem?_append_left hi] at hx
    have e : (P ++ P').getD i [] = P.getD i [] := by rw [List.getD_eq_getElem?_getD, List.getElem?_append_left (by rw [← h.len]; exact hi), List.getD_eq_getElem?_getD]
    rw [e]
    exact h.rows i x hx
  · rw [List.getElem?_append_right hi] at hx
    have e : (P ++ P').getD i [] = P'.getD (i - hds.length) [] := by rw [List.getD_eq_getElem?_getD, List.getElem?_append_right (by rw [← h.len]; exact hi), h.len, List.getD_eq_getElem?_getD]
    rw [e]
    exact h'.rows _ x hx
/-- A told row as a slice of slices. -/
theorem OwnS.row {W : World} {base : Nat} {s : Option Nat} {hds : List Hd} {P : List (List (List Int))} (h : OwnS W base s hds P) {i : Nat} {x : Hd} (hx : hds[i]? = some x) : x.2.1 = (P.getD i []).length ∧ x.2.1 ≤ x.2.2 ∧ KR.C W x.1 (P.getD i []).length (P.getD i []) := by
  obtain ⟨hs, a1, a2, a3, a4⟩ := h.rows i x hx
  have hC := (Kd.R_reads' a2)
  have hR : Rs.Rows W hs (P.getD i []) := ⟨a3, fun j y hy => by
    obtain ⟨b1, b2, b3⟩ := a4 j y hy
    have h1 := (Kd.R_reads' b3).2.2
    rw [← b1] at h1
    exact ⟨b1, b2, h1⟩⟩
  have h2 := KR_of_KH hC.2.2 hR
  rw [a3] at h2
  exact ⟨by rw [a1, a3], hC.2.1, h2⟩
set_option maxHeartbeats 8000000 in
set_option maxRecDepth 100000 in
theorem add17_nil (w : World) (g : Nat) (A : Option Addr) (c : Nat) : Calls Try.prog 17 #[.pointer (some ⟨g, 0, none⟩), .slice A 0 c] w fun e w' => e = .returned (.tuple #[.int .i64 0, .slice none 0 0, .int .i64 1]) ∧ Below w.heap.size w w' := by
  go_enter Try.func17, Try.ntmps17
  go_wp2_with fail
  go_ret3
  exact ⟨rfl, Below.refl _ _⟩
set_option maxHeartbeats 8000000 in
set_option maxRecDepth 100000 in
theorem add17_full (w : World) (g k pgs sz seg s : Nat) (rest : Value) (hf : Fits k pgs sz) (hW : Wr w g k pgs sz seg s rest) (hs : s ≤ k * roomN sz * (pgs - 1)) (A : Option Addr) (n c : Nat) (h0 : 0 < n) (hn : k * roomN sz * (pgs - 1) < s + n) : Calls Try.prog 17 #[.pointer (some ⟨g, 0, none⟩), .slice A n c] w fun e w' => e = .returned (.tuple #[.int .i64 0, .slice none 0 0, .int .i64 5]) ∧ Below w.heap.size w w' := by
  have HL := Aside0.mk (left20 w g k pgs sz seg s rest hf hW hs)
  have c1 : ((n : Int) == 0) = false := beq_eq_false_iff_ne.mpr (by omega)
  have c2 : decide (((k * roomN sz * (pgs - 1) - s : Nat) : Int) < (n : Int)) = true := decide_eq_true (by omega)
  have c3 : k * roomN sz * (pgs - 1) - s < n := by omega
  generalize k * roomN sz * (pgs - 1) - s = D at *
  clear hf hW hs hn
  go_enter Try.func17, Try.ntmps17
  go_wp2_with (go_at_call 20; refine Calls.mono HL.out ?_; rintro e w1 ⟨rfl, hb⟩; have HB := Aside0.mk hb; clear hb)
  go_ret3
  exact ⟨rfl, HB.out⟩
end Go.Proofs.Ytjnicooboiijgaa.Sg
end

section
/-
  Pages of unlike places are unlike; one other byte makes three other payloads. (Plain: no program.)
-/
set_option linter.unusedVariables false
set_option linter.unusedSimpArgs false
namespace Go.Proofs.Ytjnicooboiijgaa.Sg
open Go.RowKit Go.Proofs.YtjnicooboiijgaaW.PrintWords Go.Proofs.YtjnicooboiijgaaW.PrintLast Go.Proofs.YtjnicooboiijgaaW.PrintMore Go.Proofs.Ytjnicooboiijgaa.PSg Go.Proofs.Ytjnicooboiijgaa.Gf Go.Proofs.Ytjnicooboiijgaa.Rs
/-- One byte turned. -/
def turn (xs : List Int) (y : Nat) : List Int := xs.set y (((xs.getD y 0).toNat ^^^ 1 : Nat) : Int)
/-- How many of the first rows differ. -/
def diffs (l l' : List (List Int)) : Nat → Nat
  | 0 => 0
  | t + 1 => diffs l l' t + if Gf.row l t = Gf.row l' t then 0 else 1
end Go.Proofs.Ytjnicooboiijgaa.Sg
end

section
/-
  The rows of a stream. (Plain: no program.)
-/
set_option linter.unusedVariables false
set_option linter.unusedSimpArgs false
namespace Go.Proofs.Ytjnicooboiijgaa.Sg
open Go.RowKit Go.Proofs.YtjnicooboiijgaaW.PrintWords Go.Proofs.YtjnicooboiijgaaW.PrintLast Go.Proofs.YtjnicooboiijgaaW.PrintMore Go.Proofs.Ytjnicooboiijgaa.PSg Go.Proofs.Ytjnicooboiijgaa.Gf Go.Proofs.Ytjnicooboiijgaa.Rs
theorem len_div {S T : List Int} {N : Nat} (hN : 0 < N) : (S ++ T).length / N = S.length / N + (S.length % N + T.length) / N := by
  have h := Nat.div_add_mod S.length N
  rw [List.length_append]
  conv => lhs; rw [← h]
  rw [Nat.add_assoc, Nat.mul_comm, Nat.add_comm, Nat.add_mul_div_right _ _ hN, Nat.add_comm]
theorem rest_add {N : Nat} {S T : List Int} (hN : 0 < N) : (S.drop (S.length / N * N) ++ T).drop ((S.length % N + T.length) / N * N) = (S ++ T).drop ((S ++ T).length / N * N) := by
  rw [show S.drop (S.length / N * N) ++ T = (S ++ T).drop (S.length / N * N) from (List.drop_append_of_le_length (Nat.div_mul_le_self _ _)).symm, List.drop_drop, len_div hN, Nat.add_mul]
theorem rest_len {N : Nat} {S : List Int} : (S.drop (S.length / N * N)).length = S.length % N := by
  rw [List.length_drop]
  have := Nat.div_add_mod S.length N
  rw [Nat.mul_comm] at this
  omega
theorem padL_pad {xs : List Int} {N : Nat} (h : xs.length ≤ N) : padL (padL xs N) N = padL xs N := by
  have h1 := padL_len h
  generalize hp : padL xs N = ys at *
  unfold padL
  rw [h1, Nat.sub_self]
  simp
/-- The stream, filled up to whole rows. -/
def filled (S : List Int) (N : Nat) : List Int := if S.length % N = 0 then S else S ++ List.replicate (N - S.length % N) 0
theorem filled_len {S : List Int} {N : Nat} (hN : 0 < N) : (filled S N).length = (if S.length % N = 0 then S.length / N else S.length / N + 1) * N := by
  have h := Nat.div_add_mod S.length N
  have h2 := Nat.mod_lt S.length hN
  unfold filled
  by_cases hz : S.length % N = 0
  · rw [if_pos hz, if_pos hz, Nat.mul_comm]; omega
  · rw [if_neg hz, if_neg hz, List.length_append, List.length_replicate, Nat.succ_mul, Nat.mul_comm]; omega
/-- Where the blobs begin (or that they were not taken). -/
structure AtOk (S : List Int) (B : List (List Int)) (ats : List Int) : Prop where
  le : ats.length ≤ B.length
  at_ : ∀ j, j < ats.length → ats.getD j 0 = -1 ∨ ∃ a : Nat, ats.getD j 0 = a ∧ 0 < (Gf.row B j).length ∧ a + (Gf.row B j).length ≤ S.length ∧ (S.drop a).take (Gf.row B j).length = Gf.row B j
theorem AtOk.nil (S : List Int) (B : List (List Int)) : AtOk S B [] := ⟨Nat.zero_le _, fun j h => absurd h (Nat.not_lt_zero _)⟩
theorem AtOk.app {S : List Int} {B : List (List Int)} {ats : List Int} (h : AtOk S B ats) (T : List Int) : AtOk (S ++ T) B ats :=
  ⟨h.le, fun j hj => (h.at_ j hj).imp id fun ⟨a, h1, h0, h2, h3⟩ => ⟨a, h1, h0, by rw [List.length_append]; omega, by
    rw [List.drop_append_of_le_length (by omega), List.take_append_of_le_length (by rw [List.length_drop]; omega)]; exact h3⟩⟩
theorem getD_snoc {α : Type} {l : List α} {x d : α} {j : Nat} : (l ++ [x]).getD j d = if j < l.length then l.getD j d else if j = l.length then x else d := by
  rw [List.getD_eq_getElem?_getD]
  by_cases h : j < l.length
  · rw [if_pos h, List.getElem?_append_left h, List.getD_eq_getElem?_getD]
  · rw [if_neg h, List.getElem?_append_right (by omega)]
    by_cases h2 : j = l.length
    · rw [if_pos h2, h2, Nat.sub_self]; rfl
    · rw [if_neg h2, show j - l.length = (j - l.length - 1) + 1 by omega]; rfl
theorem AtOk.none {S : List Int} {B : List (List Int)} {ats : List Int} (h : AtOk S B ats) (hi : ats.length < B.length) : AtOk S B (ats ++ [-1]) :=
  ⟨by rw [List.length_append, List.length_singleton]; omega, fun j hj => by
    rw [List.length_append, List.length_singleton] at hj
    rw [getD_snoc]
    by_cases h1 : j < ats.length
    · rw [if_pos h1]; exact h.at_ j h1
    · rw [if_neg h1, if_pos (by omega)]; exact .inl rfl⟩
theorem AtOk.some {S : List Int} {B : List (List Int)} {ats : List Int} (h : AtOk S B ats) (hi : ats.length < B.length) (h0 : 0 < (Gf.row B ats.length).length) : AtOk (S ++ Gf.row B ats.length) B (ats ++ [(S.length : Int)]) :=
  ⟨by rw [List.length_append, List.length_singleton]; omega, fun j hj => by
    rw [List.length_append, List.length_singleton] at hj
    rw [getD_snoc]
    by_cases h1 : j < ats.length
    · rw [if_pos h1]; exact (h.app _).at_ j h1
    · rw [if_neg h1, if_pos (by omega)]
      obtain rfl : j = ats.length := by omega
      refine .inr ⟨S.length, rfl, h0, by rw [List.length_append]; exact Nat.le_refl _, ?_⟩
      rw [List.drop_left, List.take_length]⟩
/-- How many bytes the first blobs have. -/
def sumTo (B : List (List Int)) : Nat → Nat
  | 0 => 0
  | t + 1 => sumTo B t + (Gf.row B t).length
end Go.Proofs.Ytjnicooboiijgaa.Sg
end

section
/-
  What flintlaw9.SegHolds has in hand: a writer, the rows told, the places, the stream.
-/
set_option linter.unusedVariables false
set_option linter.unusedSimpArgs false
namespace Go.Proofs.Ytjnicooboiijgaa.Sg
open Go.RowKit Go.Proofs.YtjnicooboiijgaaW.PrintWords Go.Proofs.YtjnicooboiijgaaW.PrintLast Go.Proofs.YtjnicooboiijgaaW.PrintMore Go.Proofs.Ytjnicooboiijgaa.PSg Go.Proofs.Ytjnicooboiijgaa.Gf Go.Proofs.Ytjnicooboiijgaa.Rs
theorem info3 : (Try.prog.info? 3).map (fun i => (i.zero, i.size, i.bytes)) = some (some (.int .i64 0), 1, 8) := by kernel_rfl
abbrev KI : Kd Int := Kd.int .i64
/-- A block of another type stands where a row grows. -/
theorem blk_over {W W1 : World} {b t : Nat} {cs : Array Value} {α : Type} {d : Kd α} {e base : Nat} {ok : Nat → Prop} {v : Value} {xs : List α} (h : W.heap[b]? = some (.cells cs t (0, 0))) (hv : d.R e W base ok v xs) (ht : ∀ q, q ∈ e :: d.E → q ≠ t) (hg : W.grownBy W1 v.ownBlock) : W1.heap[b]? = some (.cells cs t (0, 0)) := by
  refine (hg.block b (heap_lt h) fun e' => ?_).trans h
  obtain ⟨_, _, _, q, hq, cells, hc⟩ := (Kd.R_bound hv).1 b e'.symm
  rw [h] at hc
  obtain ⟨_, rfl⟩ : _ ∧ t = q := by simpa using hc
  exact ht _ hq rfl
structure St (w W : World) (g k p s seg size : Nat) (S R ats : List Int) (Ar : Option Addr) (nr cr : Nat) (sv tv av : Value) (hds : List Hd) (P : List (List (List Int))) : Prop where
  wr : Wr W g k p s seg size (.slice Ar nr cr)
  rest : KB.R 5 W w.heap.size (fun j => sv.ownBlock ≠ some j) (.slice Ar nr cr) R
  st : KB.R 5 W w.heap.size (fun _ => True) sv S
  at_ : KI.R 3 W w.heap.size (fun _ => True) av ats
  told : KH.R 51 W w.heap.size (fun _ => True) tv hds
  own : OwnS W w.heap.size sv.ownBlock hds P
  below : Below w.heap.size w W
  shape : W.heap[w.heap.size]? = some (.cells #[.int .i64 k, .int .i64 p, .int .i64 s] 23 (0, 0))
section
variable {w W W1 : World} {g k p s seg size : Nat} {S R ats : List Int} {Ar : Option Addr} {nr cr : Nat} {sv tv av : Value} {hds : List Hd} {P : List (List (List Int))}
theorem St.move (h : St w W g k p s seg size S R ats Ar nr cr sv tv av hds P) (hb : Below W.heap.size W W1) : St w W1 g k p s seg size S R ats Ar nr cr sv tv av hds P :=
  ⟨h.wr.below hb, Kd.R_below h.rest hb, Kd.R_below h.st hb, Kd.R_below h.at_ hb, Kd.R_below h.told hb, h.own.below hb, below_then h.below h.below.size hb, (hb.block _ (heap_lt h.shape)).trans h.shape⟩
theorem St.ne (h : St w W g k p s seg size S R ats Ar nr cr sv tv av hds P) : w.heap.size ≠ g := by
  intro e
  subst e
  have h1 := h.wr
  unfold Wr at h1
  rw [h.shape] at h1
  cases h1
/-- Another writer's state, as Add leaves it. -/
theorem St.add (h : St w W g k p s seg size S R ats Ar nr cr sv tv av hds P) {size' n2 c2 : Nat} {A2 : Option Addr} {R' : List Int} (hW : Wr W1 g k p s seg size' (.slice A2 n2 c2)) (hR : KB.R 5 W1 W.heap.size (fun _ => True) (.slice A2 n2 c2) R') (hb : BK w W g W1) : St w W1 g k p s seg size' S R' ats A2 n2 c2 sv tv av hds P :=
  ⟨hW, Kd.R_mono (Kd.R_lower (Kd.R_bound hR) h.below.size) (fun j hj e => by
      have h1 := (Kd.R_bound h.st).1 j e
      have := hj.2.1; have := h1.2.2.1; omega),
    keepW h.st (by simp [KB, Kd.int, Kd.scalar]) h.wr hb.keep, keepW h.at_ (by simp [Kd.int, Kd.scalar]) h.wr hb.keep, keepW h.told (by simp [KH, Kd.scalar]) h.wr hb.keep, h.own.keepW h.wr hb.keep, hb.below, hb.keep.blk h.shape h.ne (by simp)⟩
end
/-- How many bytes fill a stream of n up. -/
def lack (n N : Nat) : Nat := if n % N = 0 then 0 else N - n % N
theorem filled_eq (S : List Int) (N : Nat) : filled S N = S ++ List.replicate (lack S.length N) 0 := by
  unfold filled lack
  by_cases h : S.length % N = 0
  · rw [if_pos h, if_pos h]; simp
  · rw [if_neg h, if_neg h]
theorem lack_mod {n N j : Nat} (hN : 0 < N) (hj : j < lack n N) : (n + j) % N ≠ 0 := by
  unfold lack at hj
  have h := Nat.div_add_mod n N
  have h2 := Nat.mod_lt n hN
  by_cases hz : n % N = 0
  · rw [if_pos hz] at hj; omega
  · rw [if_neg hz] at hj
    have e : n + j = N * (n / N) + (n % N + j) := by omega
    rw [e, Nat.mul_add_mod, Nat.mod_eq_of_lt (by omega)]
    omega
theorem lack_full {n N : Nat} (hN : 0 < N) : (n + lack n N) % N = 0 := by
  unfold lack
  have h := Nat.div_add_mod n N
  have h2 := Nat.mod_lt n hN
  by_cases hz : n % N = 0
  · rw [if_pos hz]; exact hz
  · rw [if_neg hz]
    have e : n + (N - n % N) = N * (n / N + 1) := by rw [Nat.mul_add]; omega
    rw [e, Nat.mul_mod_right]
theorem lack_le {n N : Nat} (hN : 0 < N) : lack n N ≤ N := by unfold lack; split <;> omega
end Go.Proofs.Ytjnicooboiijgaa.Sg
end

section
/-
  flintlaw9.pages on a row and itself.
-/
set_option linter.unusedVariables false
set_option linter.unusedSimpArgs false
namespace Go.Proofs.Ytjnicooboiijgaa.Sg
open Go.RowKit Go.Proofs.YtjnicooboiijgaaW.PrintWords Go.Proofs.YtjnicooboiijgaaW.PrintLast Go.Proofs.YtjnicooboiijgaaW.PrintMore Go.Proofs.Ytjnicooboiijgaa.PSg Go.Proofs.Ytjnicooboiijgaa.Gf Go.Proofs.Ytjnicooboiijgaa.Rs
/-- The rows of a stream that has room have room. -/
theorem filled_room {S : List Int} {N q : Nat} (hN : 0 < N) (h : S.length ≤ N * q) : (if S.length % N = 0 then S.length / N else S.length / N + 1) ≤ q := by
  have h1 := Nat.div_add_mod S.length N
  have h2 := Nat.mod_lt S.length hN
  by_cases hz : S.length % N = 0
  · rw [if_pos hz]
    rw [hz, Nat.add_zero] at h1
    rw [← h1] at h
    exact Nat.le_of_mul_le_mul_left h hN
  · rw [if_neg hz]
    have h3 : N * (S.length / N) < N * q := by omega
    exact Nat.lt_of_mul_lt_mul_left h3
/-- A stretch of a row. -/
theorem part_C {W : World} {b n c a m : Nat} {xs ys : List Int} (h : KB.C W (some ⟨b, 0, none⟩) n xs) (hm : 0 < m) (ha : a + m ≤ n) (hc : n ≤ c) (hy : (xs.drop a).take m = ys) : KB.C W (some ⟨b, a, none⟩) m ys := by
  have hl : xs.length = n := Kd.C_len h
  subst hl
  have h2 := Kd.C_drop (c := c) (m := a) h (by omega) hc
  have h3 := Kd.C_take (m := m) h2 (by rw [List.length_drop]; omega)
  rw [List.length_take, List.length_drop, Nat.min_eq_left (by omega), if_neg (by omega), hy, show (Option.map (fun x : Addr => x.add (a * KB.sz)) (some ⟨b, 0, none⟩)) = some ⟨b, a, none⟩ by
    show some ((⟨b, 0, none⟩ : Addr).add (a * 1)) = _
    rw [Nat.mul_one, Addr.add_mid, Nat.zero_add]] at h3
  exact h3
end Go.Proofs.Ytjnicooboiijgaa.Sg
end
