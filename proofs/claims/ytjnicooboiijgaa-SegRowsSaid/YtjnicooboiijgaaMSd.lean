/- Several texts of this session laid together: SgPe, SgPl, SgSm, SgHq, SgPq. -/
import Derived.Test.YtjnicooboiijgaaMSb
import Derived.Test.YtjnicooboiijgaaPSgx8
import Derived.Test.YtjnicooboiijgaaPSgx3
section
/-
  seg.Pages where something is wrong.
-/
set_option linter.unusedVariables false
set_option linter.unusedSimpArgs false
namespace Go.Proofs.Ytjnicooboiijgaa.Sg
open Go.RowKit Go.Proofs.YtjnicooboiijgaaW.PrintWords Go.Proofs.YtjnicooboiijgaaW.PrintLast Go.Proofs.YtjnicooboiijgaaW.PrintMore Go.Proofs.Ytjnicooboiijgaa.PSg Go.Proofs.Ytjnicooboiijgaa.Gf Go.Proofs.Ytjnicooboiijgaa.Rs
set_option maxHeartbeats 8000000 in
set_option maxRecDepth 100000 in
theorem pages24_shape (w : World) (x y z seg row : Int) (A : Option Addr) (n c : Nat) (h : seg_Check.f x y z = some 1) :
    Calls Try.prog 24 #[.agg #[.int .i64 x, .int .i64 y, .int .i64 z], .int .u64 seg, .int .i64 row, .slice A n c] w fun e w' => e = .returned (.tuple #[.slice none 0 0, .int .i64 1]) ∧ Below w.heap.size w w' := by
  have HC := Aside0.mk (fun (W : World) => seg_Check.calls x y z 1 W h)
  have HB := Aside0.mk (below_alloc (Below.refl w.heap.size w) (.cells #[.int .i64 x, .int .i64 y, .int .i64 z] 23))
  clear h
  go_enter Try.func24, Try.ntmps24
  go_wp2_with (go_at_call 22; refine Calls.mono (HC.out _) ?_; rintro e w1 ⟨rfl, hb⟩; replace HB := Aside0.mk (below_then HB.out HB.out.size hb); clear hb HC)
  go_ret2
  exact ⟨rfl, HB.out⟩
set_option maxHeartbeats 8000000 in
set_option maxRecDepth 100000 in
theorem pages24_row (w : World) {k pgs sz : Nat} (hf : Fits k pgs sz) (seg row : Int) (A : Option Addr) (n c : Nat) (h : row < 1 ∨ (pgs : Int) ≤ row) :
    Calls Try.prog 24 #[.agg #[.int .i64 k, .int .i64 pgs, .int .i64 sz], .int .u64 seg, .int .i64 row, .slice A n c] w fun e w' => e = .returned (.tuple #[.slice none 0 0, .int .i64 1]) ∧ Below w.heap.size w w' := by
  have HC := Aside0.mk (fun (W : World) => check22 W hf)
  have HH := Aside0.mk (heap_alloc_last w (.cells #[.int .i64 k, .int .i64 pgs, .int .i64 sz] 23))
  have HB := Aside0.mk (below_alloc (Below.refl w.heap.size w) (.cells #[.int .i64 k, .int .i64 pgs, .int .i64 sz] 23))
  by_cases h1 : row < 1
  · have c1 : decide (row < 1) = true := decide_eq_true h1
    clear h hf
    go_enter Try.func24, Try.ntmps24
    go_wp2_with (go_at_call 22; refine Calls.mono (HC.out _) ?_; rintro e w1 ⟨rfl, hb⟩; replace HH := Aside0.mk ((hb.block _ (heap_lt HH.out)).trans HH.out); replace HB := Aside0.mk (below_then HB.out HB.out.size hb); have y0 := blkc HH.out 0 rfl; have y1 := blkc HH.out 1 rfl; have y2 := blkc HH.out 2 rfl; clear hb HC)
    go_ret2
    exact ⟨rfl, HB.out⟩
  · have c1 : decide (row < 1) = false := decide_eq_false h1
    have h2 : (pgs : Int) ≤ row := by omega
    have c2 : decide ((pgs : Int) ≤ row) = true := decide_eq_true h2
    clear h hf
    go_enter Try.func24, Try.ntmps24
    go_wp2_with (go_at_call 22; refine Calls.mono (HC.out _) ?_; rintro e w1 ⟨rfl, hb⟩; replace HH := Aside0.mk ((hb.block _ (heap_lt HH.out)).trans HH.out); replace HB := Aside0.mk (below_then HB.out HB.out.size hb); have y0 := blkc HH.out 0 rfl; have y1 := blkc HH.out 1 rfl; have y2 := blkc HH.out 2 rfl; clear hb HC)
    go_ret2
    exact ⟨rfl, HB.out⟩
set_option maxHeartbeats 8000000 in
set_option maxRecDepth 100000 in
theorem pages24_long (w : World) {k pgs sz : Nat} (hf : Fits k pgs sz) (seg row : Int) (A : Option Addr) (n c : Nat) (h1 : ¬ row < 1) (h2 : ¬ (pgs : Int) ≤ row) (hn : k * roomN sz < n) :
    Calls Try.prog 24 #[.agg #[.int .i64 k, .int .i64 pgs, .int .i64 sz], .int .u64 seg, .int .i64 row, .slice A n c] w fun e w' => e = .returned (.tuple #[.slice none 0 0, .int .i64 3]) ∧ Below w.heap.size w w' := by
  have HC := Aside0.mk (fun (W : World) => check22 W hf)
  have HR := Aside0.mk (fun (W : World) => row23 W hf)
  have HH := Aside0.mk (heap_alloc_last w (.cells #[.int .i64 k, .int .i64 pgs, .int .i64 sz] 23))
  have HB := Aside0.mk (below_alloc (Below.refl w.heap.size w) (.cells #[.int .i64 k, .int .i64 pgs, .int .i64 sz] 23))
  have c1 : decide (row < 1) = false := decide_eq_false h1
  have c2 : decide ((pgs : Int) ≤ row) = false := decide_eq_false h2
  generalize k * roomN sz = N at *
  have c3 : decide ((N : Int) < (n : Int)) = true := decide_eq_true (by omega)
  have c4 : decide (N < n) = true := decide_eq_true hn
  clear hf
  go_enter Try.func24, Try.ntmps24
  go_wp2_with (first
    | (go_at_call 22; refine Calls.mono (HC.out _) ?_; rintro e w1 ⟨rfl, hb⟩; replace HH := Aside0.mk ((hb.block _ (heap_lt HH.out)).trans HH.out); replace HB := Aside0.mk (below_then HB.out HB.out.size hb); have y0 := blkc HH.out 0 rfl; have y1 := blkc HH.out 1 rfl; have y2 := blkc HH.out 2 rfl; clear hb HC)
    | (go_at_call 23; refine Calls.mono (HR.out _) ?_; rintro e w1 ⟨rfl, hb⟩; replace HH := Aside0.mk ((hb.block _ (heap_lt HH.out)).trans HH.out); replace HB := Aside0.mk (below_then HB.out HB.out.size hb); have y0 := blkc HH.out 0 rfl; have y1 := blkc HH.out 1 rfl; have y2 := blkc HH.out 2 rfl; clear hb HR))
  go_ret2
  exact ⟨rfl, HB.out⟩
end Go.Proofs.Ytjnicooboiijgaa.Sg
end

section
/-
  seg.Where, seg.Span, flintlaw9.SegPlaces.
-/
set_option linter.unusedVariables false
set_option linter.unusedSimpArgs false
namespace Go.Proofs.Ytjnicooboiijgaa.Sg
open Go.RowKit Go.Proofs.YtjnicooboiijgaaW.PrintWords Go.Proofs.YtjnicooboiijgaaW.PrintLast Go.Proofs.YtjnicooboiijgaaW.PrintMore Go.Proofs.Ytjnicooboiijgaa.PSg Go.Proofs.Ytjnicooboiijgaa.Gf Go.Proofs.Ytjnicooboiijgaa.Rs
/-- A shape is none, or one that fits. -/
theorem check_any (x y z : Int) : seg_Check.f x y z = some 1 ∨ ∃ k p s : Nat, Fits k p s ∧ x = k ∧ y = p ∧ z = s := by
  unfold seg_Check.f frame_Room.f
  by_cases h1 : x < 1
  · left; rw [if_pos h1]
  rw [if_neg h1]
  by_cases h2 : x > 32
  · left; rw [if_pos h2]
  rw [if_neg h2]
  by_cases h3 : y < 2
  · left; rw [if_pos h3]
  rw [if_neg h3]
  by_cases h4 : y > 4096
  · left; rw [if_pos h4]
  rw [if_neg h4]
  by_cases h5 : z < 32
  · left; rw [if_pos h5]; rfl
  rw [if_neg h5]
  by_cases h6 : z > 65536
  · left; rw [if_pos h6]; rfl
  right
  exact ⟨x.toNat, y.toNat, z.toNat, ⟨by omega, by omega, by omega, by omega, by omega, by omega⟩, by omega, by omega, by omega⟩
theorem i64w {x : Int} (h1 : -9223372036854775808 ≤ x) (h2 : x ≤ 9223372036854775807) : wrap64 x = x := by unfold wrap64; omega
theorem i64n {n : Nat} (h : n ≤ 9223372036854775807) : wrap64 ((n : Nat) : Int) = ((n : Nat) : Int) := i64w (by omega) (by omega)
theorem le1 {q a M : Nat} (h : q ≤ a) (ha : a ≤ M) (hM : M ≤ 9000000000) : 1 + q ≤ 9223372036854775807 := by omega
theorem le0 {q a M : Nat} (h : q ≤ a) (ha : a ≤ M) (hM : M ≤ 9000000000) : q ≤ 9223372036854775807 := by omega
theorem where_of {k p s : Nat} (hf : Fits k p s) {a : Nat} (ha : a < k * roomN s * (p - 1)) : seg_Where.f 1 k p s a = some (((1 + a / (k * roomN s) : Nat) : Int), ((a % (k * roomN s) / roomN s : Nat) : Int), ((a % roomN s : Nat) : Int), 0) := by
  have h1 := room_pos hf.s1 hf.s2
  have h2 := row_lt hf
  have hN : 0 < k * roomN s := Nat.mul_pos (by have := hf.k1; omega) (by omega)
  have hM : k * roomN s * (p - 1) ≤ 2097152 * 4095 := Nat.mul_le_mul h2 (by have := hf.p2; omega)
  unfold seg_Where.f
  rw [check_eq hf]
  simp only [Option.bind_some, if_true]
  rw [if_neg (by omega), room_of hf]
  simp only [Option.bind_some]
  unfold seg_Where.j0
  dsimp only
  rw [if_neg (by rw [decide_eq_true_eq]; omega), room_eq s hf.s1 hf.s2]
  simp only [Option.bind_some]
  rw [row_eq hf]
  simp only [Option.bind_some]
  rw [if_neg (by omega), if_neg (by omega), if_neg (by omega)]
  have e1 : Int.tdiv (a : Int) ((k * roomN s : Nat) : Int) = ((a / (k * roomN s) : Nat) : Int) := rfl
  have e2 : Int.tmod (a : Int) ((k * roomN s : Nat) : Int) = ((a % (k * roomN s) : Nat) : Int) := rfl
  have e3 : Int.tmod (a : Int) ((roomN s : Nat) : Int) = ((a % roomN s : Nat) : Int) := rfl
  rw [e1, e2, e3]
  have e4 : Int.tdiv ((a % (k * roomN s) : Nat) : Int) ((roomN s : Nat) : Int) = ((a % (k * roomN s) / roomN s : Nat) : Int) := rfl
  rw [e4]
  have b1 : a / (k * roomN s) ≤ a := Nat.div_le_self _ _
  have b2 : a % (k * roomN s) / roomN s ≤ a := Nat.le_trans (Nat.div_le_self _ _) (Nat.mod_le _ _)
  have hM9 : k * roomN s * (p - 1) ≤ 9000000000 := by omega
  have ha' : a ≤ k * roomN s * (p - 1) := by omega
  rw [i64n (le0 b1 ha' hM9), i64n (le0 b2 ha' hM9)]
  have e5 : (1 : Int) + ((a / (k * roomN s) : Nat) : Int) = ((1 + a / (k * roomN s) : Nat) : Int) := by push_cast; rfl
  rw [e5, i64n (le1 b1 ha' hM9)]
theorem span_of {k p s : Nat} (hf : Fits k p s) {a n : Nat} (h0 : 1 ≤ n) (ha : a + n ≤ k * roomN s * (p - 1)) : seg_Span.f 1 k p s a n = some (((1 + a / (k * roomN s) : Nat) : Int), ((1 + (a + n - 1) / (k * roomN s) : Nat) : Int), 0) := by
  have h1 := room_pos hf.s1 hf.s2
  have h2 := row_lt hf
  have hN : 0 < k * roomN s := Nat.mul_pos (by have := hf.k1; omega) (by omega)
  have hM : k * roomN s * (p - 1) ≤ 2097152 * 4095 := Nat.mul_le_mul h2 (by have := hf.p2; omega)
  unfold seg_Span.f
  rw [check_eq hf]
  simp only [Option.bind_some, if_true]
  rw [if_neg (by omega), if_neg (by omega), room_of hf]
  simp only [Option.bind_some]
  rw [if_neg (by omega)]
  rw [i64w (x := ((k * roomN s * (p - 1) : Nat) : Int) - (a : Int)) (by omega) (by omega)]
  unfold seg_Span.j0
  dsimp only
  rw [if_neg (by rw [decide_eq_true_eq]; omega), row_eq hf]
  simp only [Option.bind_some]
  rw [if_neg (by omega), if_neg (by omega)]
  rw [i64w (x := (a : Int) + (n : Int)) (by omega) (by omega)]
  rw [i64w (x := (a : Int) + (n : Int) - 1) (by omega) (by omega)]
  have e0 : (a : Int) + (n : Int) - 1 = ((a + n - 1 : Nat) : Int) := by omega
  rw [e0]
  have e1 : Int.tdiv (a : Int) ((k * roomN s : Nat) : Int) = ((a / (k * roomN s) : Nat) : Int) := rfl
  have e2 : Int.tdiv ((a + n - 1 : Nat) : Int) ((k * roomN s : Nat) : Int) = (((a + n - 1) / (k * roomN s) : Nat) : Int) := rfl
  rw [e1, e2]
  have b1 : a / (k * roomN s) ≤ a := Nat.div_le_self _ _
  have b2 : (a + n - 1) / (k * roomN s) ≤ a + n - 1 := Nat.div_le_self _ _
  have hM9 : k * roomN s * (p - 1) ≤ 9000000000 := by omega
  have ha' : a ≤ k * roomN s * (p - 1) := by omega
  have hb' : a + n - 1 ≤ k * roomN s * (p - 1) := by omega
  rw [i64n (le0 b1 ha' hM9), i64n (le0 b2 hb' hM9)]
  have e5 : (1 : Int) + ((a / (k * roomN s) : Nat) : Int) = ((1 + a / (k * roomN s) : Nat) : Int) := by push_cast; rfl
  have e6 : (1 : Int) + (((a + n - 1) / (k * roomN s) : Nat) : Int) = ((1 + (a + n - 1) / (k * roomN s) : Nat) : Int) := by push_cast; rfl
  rw [e5, e6, i64n (le1 b1 ha' hM9), i64n (le1 b2 hb' hM9)]
/-- Where two bytes lie. -/
theorem places {k c p a b : Nat} (hc : 0 < c) (hk : 0 < k) (hab : a ≤ b) (hb : b < k * c * (p - 1)) :
    1 + b / (k * c) < p ∧ a % (k * c) / c < k ∧ b % (k * c) / c < k ∧ ((a = b) ∨ a / (k * c) < b / (k * c) ∨ (a / (k * c) = b / (k * c) ∧ (a % (k * c) / c < b % (k * c) / c ∨ (a % (k * c) / c = b % (k * c) / c ∧ a % c < b % c)))) := by
  have hN : 0 < k * c := Nat.mul_pos hk hc
  have h1 : b / (k * c) < p - 1 := Nat.div_lt_of_lt_mul hb
  have h2 : ∀ x, x % (k * c) / c < k := fun x => Nat.div_lt_of_lt_mul (by rw [Nat.mul_comm c k]; exact Nat.mod_lt _ hN)
  refine ⟨(fun q h => by omega : ∀ q, q < p - 1 → 1 + q < p) _ h1, h2 a, h2 b, ?_⟩
  have h3 : a / (k * c) ≤ b / (k * c) := Nat.div_le_div_right hab
  rcases Nat.lt_or_eq_of_le h3 with h | h
  · exact .inr (.inl h)
  have ea := Nat.div_add_mod a (k * c)
  have eb := Nat.div_add_mod b (k * c)
  rw [h] at ea
  have hm : a % (k * c) ≤ b % (k * c) := by omega
  have h4 : a % (k * c) / c ≤ b % (k * c) / c := Nat.div_le_div_right hm
  rcases Nat.lt_or_eq_of_le h4 with h5 | h5
  · exact .inr (.inr ⟨h, .inl h5⟩)
  have ma : a % (k * c) % c = a % c := Nat.mod_mul_left_mod _ _ _
  have mb : b % (k * c) % c = b % c := Nat.mod_mul_left_mod _ _ _
  have fa := Nat.div_add_mod (a % (k * c)) c
  have fb := Nat.div_add_mod (b % (k * c)) c
  rw [h5, ma] at fa
  rw [mb] at fb
  rcases Nat.lt_or_eq_of_le hab with h6 | h6
  · right; right; refine ⟨h, .inr ⟨h5, ?_⟩⟩; omega
  · exact .inl h6
-- CASES (printed by mkpl.py)
end Go.Proofs.Ytjnicooboiijgaa.Sg
end

section
/-
  flintlaw9.Small, the reference's Check, seg.Pages at any row.
-/
set_option linter.unusedVariables false
set_option linter.unusedSimpArgs false
namespace Go.Proofs.Ytjnicooboiijgaa.Sg
open Go.RowKit Go.Proofs.YtjnicooboiijgaaW.PrintWords Go.Proofs.YtjnicooboiijgaaW.PrintLast Go.Proofs.YtjnicooboiijgaaW.PrintMore Go.Proofs.Ytjnicooboiijgaa.PSg Go.Proofs.Ytjnicooboiijgaa.Gf Go.Proofs.Ytjnicooboiijgaa.Rs
theorem rroom_no {z : Int} (h : z < 32 ∨ 65536 < z) : flintref1_Room.f 1 z = some 0 := by
  unfold flintref1_Room.f
  by_cases h1 : z < 32
  · rw [if_pos h1]; rfl
  · rw [if_neg h1]
    have : decide (z > 65536) = true := decide_eq_true (by omega)
    rw [this]; rfl
theorem rroom_yes {s : Nat} (h1 : 32 ≤ s) (h2 : s ≤ 65536) : flintref1_Room.f 1 (s : Int) = some ((roomN s : Nat) : Int) := by
  unfold flintref1_Room.f
  rw [if_neg (by omega)]
  have : decide ((s : Int) > 65536) = false := decide_eq_false (by omega)
  rw [this]
  unfold flintref1_Room.j0
  dsimp only
  have hw : wrap64 ((s : Int) - 19) = ((s - 19 : Nat) : Int) := by unfold wrap64; omega
  rw [hw, if_neg (by simp), if_neg (by omega)]
  unfold roomN
  rw [if_neg (by omega), Nat.min_eq_left (by omega)]
theorem rcheck_yes {k p s : Nat} (hf : Fits k p s) : flintref9_Check.f 1 k p s = some 0 := by
  have h := room_pos hf.s1 hf.s2
  have := hf.k1; have := hf.k2; have := hf.p1; have := hf.p2
  unfold flintref9_Check.f
  rw [if_neg (by omega), if_neg (by omega), if_neg (by omega), if_neg (by omega), rroom_yes hf.s1 hf.s2]
  simp only [Option.bind_some]
  rw [if_neg (by omega)]
theorem rcheck_no {x y z : Int} (h : seg_Check.f x y z = some 1) : flintref9_Check.f 1 x y z = some 1 := by
  unfold seg_Check.f frame_Room.f at h
  unfold flintref9_Check.f
  by_cases h1 : x < 1
  · rw [if_pos h1]
  rw [if_neg h1] at h ⊢
  by_cases h2 : x > 32
  · rw [if_pos h2]
  rw [if_neg h2] at h ⊢
  by_cases h3 : y < 2
  · rw [if_pos h3]
  rw [if_neg h3] at h ⊢
  by_cases h4 : y > 4096
  · rw [if_pos h4]
  rw [if_neg h4] at h ⊢
  by_cases h5 : z < 32 ∨ 65536 < z
  · rw [rroom_no h5]; rfl
  · have hr := room_pos (sz := z.toNat) (by omega) (by omega)
    have e := room_eq z.toNat (by omega) (by omega)
    rw [show ((z.toNat : Nat) : Int) = z by omega] at e
    unfold frame_Room.f at e
    rw [e] at h
    simp only [Option.bind_some] at h
    rw [if_neg (by omega)] at h
    simp at h
theorem small9_no (W : World) {x y z : Int} (h : seg_Check.f x y z = some 1) : Calls Try.prog 9 #[.agg #[.int .i64 x, .int .i64 y, .int .i64 z]] W fun e w' => e = .returned (.bool true) ∧ Below W.heap.size W w' := by
  have h := flintlaw9_Small.calls 1 x y z true W (by unfold flintlaw9_Small.f flintlaw9_Of.f; simp only [Option.bind_some]; rw [rcheck_no h]; rfl)
  first | exact h | exact h.mono fun e w' ⟨h1, h2⟩ => ⟨h1, h2.below⟩
theorem small9_yes (W : World) {k p s : Nat} (hf : Fits k p s) (b : Bool) (hb : b = decide (s ≤ 600 ∧ k ≤ 12)) : Calls Try.prog 9 #[.agg #[.int .i64 k, .int .i64 p, .int .i64 s]] W fun e w' => e = .returned (.bool b) ∧ Below W.heap.size W w' := by
  have h := flintlaw9_Small.calls 1 k p s b W (by
    unfold flintlaw9_Small.f flintlaw9_Of.f; simp only [Option.bind_some]; rw [rcheck_yes hf]
    simp only [Option.bind_some, if_true]
    rw [hb]
    by_cases h : s ≤ 600
    · rw [if_pos (by omega)]
      simp [h]
      omega
    · rw [if_neg (by omega)]
      simp [h])
  first | exact h | exact h.mono fun e w' ⟨h1, h2⟩ => ⟨h1, h2.below⟩
/-- Rows of pages as slices of slices. -/
theorem rows_C {W : World} {base e : Nat} {v : Value} {hs : List Hd} {L : List (List Int)} {ok : Nat → Prop} (h : KH.R e W base ok v hs) (hO : OwnM W base hs L) : ∃ A c, v = .slice A L.length c ∧ KR.C W A L.length L ∧ L.length ≤ c := by
  obtain ⟨A, c, ev, hle, hC⟩ := Kd.R_reads h
  have hl : hs.length = L.length := hO.len
  rw [hl] at ev hle hC
  exact ⟨A, c, ev, KR_of_KH hC hO.toRows, hle⟩
end Go.Proofs.Ytjnicooboiijgaa.Sg
end

section
/-
  Rows told, beside a stream that grows; Add where it gives up.
-/
set_option linter.unusedVariables false
set_option linter.unusedSimpArgs false
namespace Go.Proofs.Ytjnicooboiijgaa.Sg
open Go.RowKit Go.Proofs.YtjnicooboiijgaaW.PrintWords Go.Proofs.YtjnicooboiijgaaW.PrintLast Go.Proofs.YtjnicooboiijgaaW.PrintMore Go.Proofs.Ytjnicooboiijgaa.PSg Go.Proofs.Ytjnicooboiijgaa.Gf Go.Proofs.Ytjnicooboiijgaa.Rs
theorem byte_at {xs : List Int} (h : bytes xs = true) (y : Nat) : ∃ b : Nat, xs.getD y 0 = (b : Int) ∧ b < 256 := by
  unfold bytes at h
  rw [List.all_eq_true] at h
  rw [List.getD_eq_getElem?_getD]
  rcases hq : xs[y]? with _ | q
  · exact ⟨0, rfl, by omega⟩
  · have := h q (List.mem_of_getElem? hq)
    simp only [Bool.and_eq_true, decide_eq_true_eq] at this
    exact ⟨q.toNat, by simp only [Option.getD_some]; omega, by omega⟩
theorem bytes_of {xs : List Int} (hw : ∀ x ∈ xs, (Lit.int .u8 x).wf = true) : bytes xs = true := by
  unfold bytes
  rw [List.all_eq_true]
  intro x hx
  have := hw x hx
  have e2 : IntKind.u8.min ≤ x ∧ x ≤ IntKind.u8.max := by simpa [Lit.wf] using this
  have h1 : IntKind.u8.min = 0 := rfl
  have h2 : IntKind.u8.max = 255 := rfl
  rw [h1, h2] at e2
  simp only [Bool.and_eq_true, decide_eq_true_eq]
  omega
theorem u64_of {a : Int} (h : (Lit.int .u64 a).wf = true) : ∃ n : Nat, a = n ∧ n < 18446744073709551616 := by
  have e2 : IntKind.u64.min ≤ a ∧ a ≤ IntKind.u64.max := by simpa [Lit.wf] using h
  have h1 : IntKind.u64.min = 0 := rfl
  have h2 : IntKind.u64.max = 18446744073709551615 := rfl
  rw [h1, h2] at e2
  exact ⟨a.toNat, by omega, by omega⟩
/-- Rows of rows of the call's own, none of which lies in the block s. -/
structure OwnS (W : World) (base : Nat) (s : Option Nat) (hds : List Hd) (P : List (List (List Int))) : Prop where
  len : hds.length = P.length
  rows : ∀ (i : Nat) (x : Hd), hds[i]? = some x → ∃ hs : List Hd, x.2.1 = hs.length ∧ KH.R 37 W base (fun _ => True) (.slice x.1 x.2.1 x.2.2) hs ∧ hs.length = (P.getD i []).length ∧
    ∀ (j : Nat) (y : Hd), hs[j]? = some y → y.2.1 = (Gf.row (P.getD i []) j).length ∧ y.2.1 ≤ y.2.2 ∧ KB.R 5 W base (fun k => s ≠ some k) (.slice y.1 y.2.1 y.2.2) (Gf.row (P.getD i []) j)
theorem OwnS.move {W W1 : World} {base : Nat} {s s' : Option Nat} {hds : List Hd} {P : List (List (List Int))} (h : OwnS W base s hds P)
    (h1 : ∀ v xs, KH.R 37 W base (fun _ => True) v xs → KH.R 37 W1 base (fun _ => True) v xs) (h2 : ∀ v xs, KB.R 5 W base (fun k => s ≠ some k) v xs → KB.R 5 W1 base (fun k => s' ≠ some k) v xs) : OwnS W1 base s' hds P :=
  ⟨h.len, fun i x hx => by
    obtain ⟨hs, a1, a2, a3, a4⟩ := h.rows i x hx
    exact ⟨hs, a1, h1 _ _ a2, a3, fun j y hy => by obtain ⟨b1, b2, b3⟩ := a4 j y hy; exact ⟨b1, b2, h2 _ _ b3⟩⟩⟩
theorem OwnS.nil (W : World) (base : Nat) (s : Option Nat) : OwnS W base s [] [] := ⟨rfl, fun i x hx => by simp at hx⟩
theorem OwnS.of {W1 : World} {base base' : Nat} {s : Option Nat} {hds : List Hd} {P : List (List (List Int))} (h : OwnP W1 base hds P) (hb : base' ≤ base) (hs : ∀ k, s = some k → k < base) : OwnS W1 base' s hds P :=
  ⟨h.len, fun i x hx => by
    obtain ⟨hds', a1, a2, a3⟩ := h.rows i x hx
    exact ⟨hds', a1, Kd.R_lower a2 hb, a3.len, fun j y hy => by
      obtain ⟨b1, b2, b3⟩ := a3.rows j y hy
      exact ⟨b1, b2, Kd.R_mono (Kd.R_lower (Kd.R_bound b3) hb) (fun k hk e => by have := hs k e; have := hk.2.1; omega)⟩⟩⟩
theorem OwnS.below {W W1 : World} {base : Nat} {s : Option Nat} {hds : List Hd} {P : List (List (List Int))} (h : OwnS W base s hds P) (hb : Below W.heap.size W W1) : OwnS W1 base s hds P :=
  h.move (fun _ _ h => Kd.R_below h hb) (fun _ _ h => Kd.R_below h hb)
/-- A row of another element type grows. -/
theorem OwnS.over {W W1 : World} {base : Nat} {s : Option Nat} {hds : List Hd} {P : List (List (List Int))} (h : OwnS W base s hds P) {α : Type} {d : Kd α} {e base' : Nat} {ok : Nat → Prop} {v : Value} {xs : List α} (hv : d.R e W base' ok v xs) (h37 : e ≠ 37) (h5 : e ≠ 5) (hg : W.grownBy W1 v.ownBlock) : OwnS W1 base s hds P :=
  h.move (fun _ _ h => Kd.R_over h hv (by simp [KH, Kd.scalar]; exact fun e => h37 e.symm) hg) (fun _ _ h => Kd.R_over h hv (by simp [KB, Kd.int, Kd.scalar]; exact fun e => h5 e.symm) hg)
theorem OwnS.keepW {W W' : World} {base g k pgs sz seg sz' : Nat} {s : Option Nat} {hds : List Hd} {P : List (List (List Int))} {rest : Value} (h : OwnS W base s hds P) (hW : Wr W g k pgs sz seg sz' rest) (hk : KeepBut W W' g none) : OwnS W' base s hds P :=
  h.move (fun _ _ h => Sg.keepW h (by simp [KH, Kd.scalar]) hW hk) (fun _ _ h => Kd.R_mono (Kd.R_keep (Kd.R_bound h) hk fun j hj ej => by
    subst ej
    obtain ⟨_, _, _, q, hq, cells, hc⟩ := hj
    unfold Wr at hW
    rw [hW] at hc
    obtain ⟨_, rfl⟩ : _ ∧ (75 : Nat) = q := by simpa using hc
    simp [KB, Kd.int, Kd.scalar] at hq) (fun _ h => h.1))
theorem OwnS.append {W : World} {base : Nat} {s : Option Nat} {hds hds' : List Hd} {P P' : List (List (List Int))} (h : OwnS W base s hds P) (h' : OwnS W base s hds' P') : OwnS W base s (hds ++ hds') (P ++ P') := by
  refine ⟨by simp [h.len, h'.len], fun i x hx => ?_⟩
  rcases Nat.lt_or_ge i hds.length with hi | hi
  · rw [List.getElem?_append_left hi] at hx
    have e : (P ++ P').getD i [] = P.getD i [] := by rw [List.getD_eq_getElem?_getD, List.getElem?_append_left (by rw [← h.len]; exact hi), List.getD_eq_getElem?_getD]
    rw [e]
    exact h.rows i x hx
  · rw [List.getElem?_append_right hi] at hx
    have e : (P ++ P').getD i [] = P'.getD (i - hds.length) [] := by rw [List.getD_eq_getElem?_getD, List.getElem?_append_right (by rw [← h.len]; exact hi), h.len, List.getD_eq_getElem?_getD]
    rw [e]
    exact h'.rows _ x hx
/-- A told row as a slice of slices. -/
theorem OwnS.row {W : World} {base : Nat} {s : Option Nat} {hds : List Hd} {P : List (List (List Int))} (h : OwnS W base s hds P) {i : Nat} {x : Hd} (hx : hds[i]? = some x) : x.2.1 = (P.getD i []).length ∧ x.2.1 ≤ x.2.2 ∧ KR.C W x.1 (P.getD i []).length (P.getD i []) := by
  obtain ⟨hs, a1, a2, a3, a4⟩ := h.rows i x hx
  have hC := (Kd.R_reads' a2)
  have hR : Rs.Rows W hs (P.getD i []) := ⟨a3, fun j y hy => by
    obtain ⟨b1, b2, b3⟩ := a4 j y hy
    have h1 := (Kd.R_reads' b3).2.2
    rw [← b1] at h1
    exact ⟨b1, b2, h1⟩⟩
  have h2 := KR_of_KH hC.2.2 hR
  rw [a3] at h2
  exact ⟨by rw [a1, a3], hC.2.1, h2⟩
end Go.Proofs.Ytjnicooboiijgaa.Sg
end

section
/-
  flintlaw9.pages on a row and itself.
-/
set_option linter.unusedVariables false
set_option linter.unusedSimpArgs false
namespace Go.Proofs.Ytjnicooboiijgaa.Sg
open Go.RowKit Go.Proofs.YtjnicooboiijgaaW.PrintWords Go.Proofs.YtjnicooboiijgaaW.PrintLast Go.Proofs.YtjnicooboiijgaaW.PrintMore Go.Proofs.Ytjnicooboiijgaa.PSg Go.Proofs.Ytjnicooboiijgaa.Gf Go.Proofs.Ytjnicooboiijgaa.Rs
theorem pages_l0 (L : List (List Int)) (hL : L.length ≤ 1000) : ∀ (d i : Nat), i + d = L.length → flintlaw9_pages.l0 (d + 1) L L (i : Int) = some true := by
  intro d
  induction d with
  | zero =>
    intro i hi
    unfold flintlaw9_pages.l0
    rw [if_neg (by omega)]
  | succ d ih =>
    intro i hi
    unfold flintlaw9_pages.l0
    rw [if_pos (by omega), if_pos (by omega), if_pos (by omega), if_pos rfl]
    have e : wrap64 ((i : Int) + 1) = ((i + 1 : Nat) : Int) := by unfold wrap64; omega
    rw [e]
    exact ih (i + 1) (by omega)
theorem pages_self (L : List (List Int)) (hL : L.length ≤ 1000) : flintlaw9_pages.f (L.length + 1) L L = some true := by
  unfold flintlaw9_pages.f
  rw [if_pos rfl]
  exact pages_l0 L hL L.length 0 (by omega)
theorem pages25 (W : World) (L : List (List Int)) (hL : L.length ≤ 1000) (A0 A1 : Option Addr) (n0 n1 c0 c1 : Nat) (h0 : KR.C W A0 L.length L) (hc0 : L.length ≤ c0) (hn0 : n0 = L.length) (h1 : KR.C W A1 L.length L) (hc1 : L.length ≤ c1) (hn1 : n1 = L.length) :
    Calls Try.prog 25 #[.slice A0 n0 c0, .slice A1 n1 c1] W fun e w' => e = .returned (.bool true) ∧ Below W.heap.size W w' := by
  subst hn0 hn1
  exact (flintlaw9_pages.calls (L.length + 1) A0 c0 L A1 c1 L true W h0 hc0 h1 hc1 (pages_self L hL)).mono fun e w' ⟨h1, h2⟩ => ⟨h1, h2.below⟩
end Go.Proofs.Ytjnicooboiijgaa.Sg
end
