/-
  SegRows: what both sides answer, side by side.
-/
import Derived.Test.YtjnicooboiijgaaSgHe
import Derived.Test.YtjnicooboiijgaaMSd
set_option linter.unusedVariables false
set_option linter.unusedSimpArgs false
namespace Go.Proofs.Ytjnicooboiijgaa.Sg
open Go.RowKit Go.Proofs.YtjnicooboiijgaaW.PrintWords Go.Proofs.YtjnicooboiijgaaW.PrintLast Go.Proofs.YtjnicooboiijgaaW.PrintMore Go.Proofs.Ytjnicooboiijgaa.PSg Go.Proofs.Ytjnicooboiijgaa.Gf Go.Proofs.Ytjnicooboiijgaa.Rs
/-- Rows, to be read. -/
def RC (W : World) (v : Value) (L : List (List Int)) : Prop := ∃ A c, v = .slice A L.length c ∧ L.length ≤ c ∧ KR.C W A L.length L
theorem RC.nil (W : World) : RC W (.slice none 0 0) [] := ⟨none, 0, rfl, Nat.le_refl _, ⟨rfl, by simp, fun h => absurd h (Nat.lt_irrefl 0)⟩⟩
theorem RC.below {W W1 : World} {v : Value} {L : List (List Int)} (h : RC W v L) (hb : Below W.heap.size W W1) : RC W1 v L := by
  obtain ⟨A, c, h1, h2, h3⟩ := h
  exact ⟨A, c, h1, h2, Kd.C_below h3 hb⟩
theorem RC.of {W : World} {base e : Nat} {v : Value} {hs : List Hd} {L : List (List Int)} {ok : Nat → Prop} (h : KH.R e W base ok v hs) (hO : OwnM W base hs L) : RC W v L := by
  obtain ⟨A, c, h1, h2, h3⟩ := rows_C h hO
  exact ⟨A, c, h1, h3, h2⟩
theorem same25 (W : World) (L : List (List Int)) (hL : L.length ≤ 1000) {v0 v1 : Value} (h0 : RC W v0 L) (h1 : RC W v1 L) : Calls Try.prog 25 #[v0, v1] W fun e w' => e = .returned (.bool true) ∧ Below W.heap.size W w' := by
  obtain ⟨A0, c0, rfl, k0, C0⟩ := h0
  obtain ⟨A1, c1, rfl, k1, C1⟩ := h1
  exact pages25 W L hL A0 A1 L.length L.length c0 c1 C0 k0 rfl C1 k1 rfl
/-- A call that answers a tuple of rows and a number. -/
def AnsR (f : FuncId) (args : Array Value) (W : World) (L : List (List Int)) (z : Int) : Prop := Calls Try.prog f args W fun e w' => ∃ v, e = .returned (.tuple #[v, .int .i64 z]) ∧ RC w' v L ∧ Below W.heap.size W w'
theorem heads_pair (x y z : Int) (seg : Nat) (hseg : seg < 18446744073709551616) : ∃ L e, L.length ≤ 1000 ∧ (∀ W, AnsR 31 #[.agg #[.int .i64 x, .int .i64 y, .int .i64 z], .int .u64 seg] W L e) ∧ (∀ W, AnsR 32 #[.agg #[.int .i64 x, .int .i64 y, .int .i64 z], .int .u64 seg] W L e) := by
  rcases check_any x y z with h | ⟨k, p, s, hf, rfl, rfl, rfl⟩
  · refine ⟨[], 1, by simp, fun W => ?_, fun W => ?_⟩
    · exact (heads31_no W x y z seg h).mono fun e w' ⟨h1, h2⟩ => ⟨_, h1, RC.nil _, h2⟩
    · exact (flintref9_Heads.calls 1 x y z seg [] 1 W (rheads_no h)).mono fun e w' ⟨v, h1, h3, h2⟩ => ⟨v, h1, by
        obtain ⟨A, c, ev, hc, hC⟩ := Kd.S_reads h3
        exact ⟨A, c, ev, hc, hC⟩, h2⟩
  · have hk := hf.k2
    obtain ⟨t1, t2, t3, hn, l3, b3⟩ := head_ok hf
    obtain ⟨h1, h2, h3⟩ := hn 10 (by omega)
    have ht : ∀ K, 3 < K → flintref9_HeadOf.f K k p s = some t3 := fun K hK => by
      obtain ⟨g1, g2, g3⟩ := hn K hK
      exact headOf_f hf g1 g2 g3
    refine ⟨pagesL s seg 0 (List.replicate (k + 2) t3), 0, by rw [pagesL_len, List.length_replicate]; omega, fun W => ?_, fun W => ?_⟩
    · exact (heads31_ok W hf seg hseg h1 h2 h3 l3 b3).mono fun e w' ⟨v, hs, g1, g2, g3, g4⟩ => ⟨v, g1, RC.of g2 g3, g4⟩
    · exact (flintref9_Heads.calls 200000 k p s seg _ 0 W (rheads_ok hf hseg ht l3 b3)).mono fun e w' ⟨v, h1, h3, h2⟩ => ⟨v, h1, by
        obtain ⟨A, c, ev, hc, hC⟩ := Kd.S_reads h3
        exact ⟨A, c, ev, hc, hC⟩, h2⟩
theorem pages_pair (x y z row : Int) (seg : Nat) (hseg : seg < 18446744073709551616) (xs : List Int) (hb : bytes xs = true) : ∃ L e, L.length ≤ 1000 ∧ (∀ W A c, KB.C W A xs.length xs → xs.length ≤ c → AnsR 24 #[.agg #[.int .i64 x, .int .i64 y, .int .i64 z], .int .u64 seg, .int .i64 row, .slice A xs.length c] W L e) ∧ (∀ W A c, KB.C W A xs.length xs → xs.length ≤ c → AnsR 33 #[.agg #[.int .i64 x, .int .i64 y, .int .i64 z], .int .u64 seg, .int .i64 row, .slice A xs.length c] W L e) := by
  have rd : ∀ {W : World} {b : Nat} {v : Value} {L : List (List Int)} {ok : Nat → Prop}, Kd.N (Kd.slice 5 (Kd.int .u8)) 37 W b ok v L → RC W v L := fun h => by
    obtain ⟨A, c, ev, hc, hC⟩ := Kd.N_reads h
    exact ⟨A, c, ev, hc, hC⟩
  rcases check_any x y z with h | ⟨k, p, s, hf, rfl, rfl, rfl⟩
  · refine ⟨[], 1, by simp, fun W A c hA hc => ?_, fun W A c hA hc => ?_⟩
    · exact (pages24_shape W x y z seg row A xs.length c h).mono fun e w' ⟨h1, h2⟩ => ⟨_, h1, RC.nil _, h2⟩
    · exact (flintref9_Pages.calls 1 x y z seg row A c xs [] 1 W hA hc (rpages_no h xs)).mono fun e w' ⟨v, h1, h3, h2⟩ => ⟨v, h1, rd h3, h2⟩
  · by_cases hr : row < 1 ∨ (p : Int) ≤ row
    · refine ⟨[], 1, by simp, fun W A c hA hc => ?_, fun W A c hA hc => ?_⟩
      · exact (pages24_row W hf seg row A xs.length c hr).mono fun e w' ⟨h1, h2⟩ => ⟨_, h1, RC.nil _, h2⟩
      · exact (flintref9_Pages.calls 1 k p s seg row A c xs [] 1 W hA hc (rpages_row (by decide) hf seg row hr xs)).mono fun e w' ⟨v, h1, h3, h2⟩ => ⟨v, h1, rd h3, h2⟩
    · by_cases hl : k * roomN s < xs.length
      · refine ⟨[], 3, by simp, fun W A c hA hc => ?_, fun W A c hA hc => ?_⟩
        · exact (pages24_long W hf seg row A xs.length c (by omega) (by omega) hl).mono fun e w' ⟨h1, h2⟩ => ⟨_, h1, RC.nil _, h2⟩
        · exact (flintref9_Pages.calls 3 k p s seg row A c xs [] 3 W hA hc (rpages_long (by decide) hf seg row (by omega) (by omega) xs hl)).mono fun e w' ⟨v, h1, h3, h2⟩ => ⟨v, h1, rd h3, h2⟩
      · obtain ⟨r, rfl⟩ : ∃ r : Nat, row = r := ⟨row.toNat, by omega⟩
        have hk := hf.k2
        refine ⟨pagesL s seg r (payL (padL xs (k * roomN s)) k (roomN s)), 0, by rw [pagesL_len, payL_len]; omega, fun W A c hA hc => ?_, fun W A c hA hc => ?_⟩
        · exact (pages24_ok W k p s seg r xs.length c hf A xs hA hb hseg (by omega) (by omega) (by omega)).mono fun e w' ⟨v, hs, g1, g2, g3, g4⟩ => ⟨v, g1, RC.of g2 g3, g4⟩
        · exact (rpages33 W hf seg r hseg (by omega) (by omega) A xs.length c xs hA hc (by omega) hb).mono fun e w' ⟨v, h1, h3, h2⟩ => ⟨v, h1, rd h3, h2⟩
theorem where_pair (x y z a : Int) : ∃ p q r e, (∀ W, Calls Try.prog 27 #[.agg #[.int .i64 x, .int .i64 y, .int .i64 z], .int .i64 a] W fun e' w' => e' = .returned (.tuple #[.int .i64 p, .int .i64 q, .int .i64 r, .int .i64 e]) ∧ Below W.heap.size W w') ∧ (∀ W, Calls Try.prog 34 #[.agg #[.int .i64 x, .int .i64 y, .int .i64 z], .int .i64 a] W fun e' w' => e' = .returned (.tuple #[.int .i64 p, .int .i64 q, .int .i64 r, .int .i64 e]) ∧ Below W.heap.size W w') := by
  rcases check_any x y z with h | ⟨k, p, s, hf, rfl, rfl, rfl⟩
  · obtain ⟨h1, h2⟩ := where_no h a
    exact ⟨0, 0, 0, 1, fun W => seg_Where.calls 1 x y z a _ _ _ _ W h1, fun W => flintref9_Where.calls 1 x y z a _ _ _ _ W h2⟩
  · obtain ⟨u, v, t, e, h1, h2⟩ := where_same hf a
    exact ⟨u, v, t, e, fun W => seg_Where.calls 1 k p s a _ _ _ _ W h1, fun W => flintref9_Where.calls 2 k p s a _ _ _ _ W h2⟩
theorem span_pair (x y z a n : Int) (ha : (Lit.int .i64 a).wf = true) (hn : (Lit.int .i64 n).wf = true) : ∃ p q e, (∀ W, Calls Try.prog 28 #[.agg #[.int .i64 x, .int .i64 y, .int .i64 z], .int .i64 a, .int .i64 n] W fun e' w' => e' = .returned (.tuple #[.int .i64 p, .int .i64 q, .int .i64 e]) ∧ Below W.heap.size W w') ∧ (∀ W, Calls Try.prog 35 #[.agg #[.int .i64 x, .int .i64 y, .int .i64 z], .int .i64 a, .int .i64 n] W fun e' w' => e' = .returned (.tuple #[.int .i64 p, .int .i64 q, .int .i64 e]) ∧ Below W.heap.size W w') := by
  rcases check_any x y z with h | ⟨k, p, s, hf, rfl, rfl, rfl⟩
  · obtain ⟨h1, h2⟩ := span_no h a n
    exact ⟨0, 0, 1, fun W => seg_Span.calls 1 x y z a n _ _ _ W h1, fun W => flintref9_Span.calls 1 x y z a n _ _ _ W h2⟩
  · obtain ⟨u, v, e, h1, h2⟩ := span_same hf a n ha hn
    exact ⟨u, v, e, fun W => seg_Span.calls 1 k p s a n _ _ _ W h1, fun W => flintref9_Span.calls 2 k p s a n _ _ _ W h2⟩
/-- A call of a shape that answers a number. -/
def AnsN (f : FuncId) (x y z : Int) (r : Int) : Prop := ∀ W : World, Calls Try.prog f #[.agg #[.int .i64 x, .int .i64 y, .int .i64 z]] W fun e w' => e = .returned (.int .i64 r) ∧ Below W.heap.size W w'
theorem check_pair (x y z : Int) : ∃ r, AnsN 22 x y z r ∧ AnsN 12 x y z r := by
  rcases check_any x y z with h | ⟨k, p, s, hf, rfl, rfl, rfl⟩
  · exact ⟨1, fun W => seg_Check.calls x y z 1 W h, fun W => flintref9_Check.calls 1 x y z 1 W (rcheck_no h)⟩
  · exact ⟨0, fun W => check22 W hf, fun W => flintref9_Check.calls 1 k p s 0 W (rcheck_yes hf)⟩
theorem row_pair (x y z : Int) : ∃ r, AnsN 23 x y z r ∧ AnsN 29 x y z r := by
  rcases check_any x y z with h | ⟨k, p, s, hf, rfl, rfl, rfl⟩
  · refine ⟨0, fun W => seg_Row.calls x y z 0 W ?_, fun W => flintref9_Row.calls 1 x y z 0 W ?_⟩
    · unfold seg_Row.f; rw [h]; rfl
    · unfold flintref9_Row.f; rw [rcheck_no h]; rfl
  · exact ⟨_, fun W => row23 W hf, fun W => flintref9_Row.calls 1 k p s _ W (rrow_k (by decide) hf)⟩
theorem room_pair (x y z : Int) : ∃ r, AnsN 26 x y z r ∧ AnsN 30 x y z r := by
  rcases check_any x y z with h | ⟨k, p, s, hf, rfl, rfl, rfl⟩
  · refine ⟨wrap64 (0 * wrap64 (y - 1)), fun W => seg_Room.calls x y z _ W ?_, fun W => flintref9_Room.calls 1 x y z _ W ?_⟩
    · unfold seg_Room.f seg_Row.f; rw [h]; rfl
    · unfold flintref9_Room.f flintref9_Row.f; rw [rcheck_no h]; rfl
  · exact ⟨_, fun W => room26 W hf, fun W => flintref9_Room.calls 1 k p s _ W (rroom_f (by decide) hf)⟩
theorem small_any (x y z : Int) : ∃ b : Bool, ∀ W : World, Calls Try.prog 9 #[.agg #[.int .i64 x, .int .i64 y, .int .i64 z]] W fun e w' => e = .returned (.bool b) ∧ Below W.heap.size W w' := by
  rcases check_any x y z with h | ⟨k, p, s, hf, rfl, rfl, rfl⟩
  · exact ⟨true, fun W => small9_no W h⟩
  · exact ⟨_, fun W => small9_yes W hf _ rfl⟩
theorem of13' (W : World) (x y z : Int) : Calls Try.prog 13 #[.agg #[.int .i64 x, .int .i64 y, .int .i64 z]] W fun e w' => e = .returned (.agg #[.int .i64 x, .int .i64 y, .int .i64 z]) ∧ Below W.heap.size W w' := flintlaw9_Of.calls x y z x y z W rfl
end Go.Proofs.Ytjnicooboiijgaa.Sg
