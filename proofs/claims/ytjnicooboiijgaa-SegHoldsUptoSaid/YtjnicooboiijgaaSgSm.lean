/-
  flintlaw9.Small, the reference's Check, seg.Pages at any row.
-/
import Derived.Test.YtjnicooboiijgaaSgPe
import Derived.Test.YtjnicooboiijgaaSgPl
import Derived.Test.YtjnicooboiijgaaPSgx3
set_option linter.unusedVariables false
set_option linter.unusedSimpArgs false
namespace Go.Proofs.Ytjnicooboiijgaa.Sg
open Go.RowKit Go.Proofs.YtjnicooboiijgaaW.PrintWords Go.Proofs.YtjnicooboiijgaaW.PrintLast Go.Proofs.YtjnicooboiijgaaW.PrintMore Go.Proofs.Ytjnicooboiijgaa.PSg Go.Proofs.Ytjnicooboiijgaa.Gf Go.Proofs.Ytjnicooboiijgaa.Rs
theorem rroom_no {z : Int} (h : z < 32 ∨ 65536 < z) : flintref1_Room.f 1 z = some 0 := by
  unfold flintref1_Room.f
  by_cases h1 : z < 32
  · rw [if_pos h1]; rfl
  · rw [if_neg h1]
    have : decide (z > 65536) = true := decide_eq_true (by omega)
    rw [this]; rfl
theorem rroom_yes {s : Nat} (h1 : 32 ≤ s) (h2 : s ≤ 65536) : flintref1_Room.f 1 (s : Int) = some ((roomN s : Nat) : Int) := by
  unfold flintref1_Room.f
  rw [if_neg (by omega)]
  have : decide ((s : Int) > 65536) = false := decide_eq_false (by omega)
  rw [this]
  unfold flintref1_Room.j0
  dsimp only
  have hw : wrap64 ((s : Int) - 19) = ((s - 19 : Nat) : Int) := by unfold wrap64; omega
  rw [hw, if_neg (by simp), if_neg (by omega)]
  unfold roomN
  rw [if_neg (by omega), Nat.min_eq_left (by omega)]
theorem rcheck_yes {k p s : Nat} (hf : Fits k p s) : flintref9_Check.f 1 k p s = some 0 := by
  have h := room_pos hf.s1 hf.s2
  have := hf.k1; have := hf.k2; have := hf.p1; have := hf.p2
  unfold flintref9_Check.f
  rw [if_neg (by omega), if_neg (by omega), if_neg (by omega), if_neg (by omega), rroom_yes hf.s1 hf.s2]
  simp only [Option.bind_some]
  rw [if_neg (by omega)]
theorem rcheck_no {x y z : Int} (h : seg_Check.f x y z = some 1) : flintref9_Check.f 1 x y z = some 1 := by
  unfold seg_Check.f frame_Room.f at h
  unfold flintref9_Check.f
  by_cases h1 : x < 1
  · rw [if_pos h1]
  rw [if_neg h1] at h ⊢
  by_cases h2 : x > 32
  · rw [if_pos h2]
  rw [if_neg h2] at h ⊢
  by_cases h3 : y < 2
  · rw [if_pos h3]
  rw [if_neg h3] at h ⊢
  by_cases h4 : y > 4096
  · rw [if_pos h4]
  rw [if_neg h4] at h ⊢
  by_cases h5 : z < 32 ∨ 65536 < z
  · rw [rroom_no h5]; rfl
  · have hr := room_pos (sz := z.toNat) (by omega) (by omega)
    have e := room_eq z.toNat (by omega) (by omega)
    rw [show ((z.toNat : Nat) : Int) = z by omega] at e
    unfold frame_Room.f at e
    rw [e] at h
    simp only [Option.bind_some] at h
    rw [if_neg (by omega)] at h
    simp at h
theorem small9_no (W : World) {x y z : Int} (h : seg_Check.f x y z = some 1) : Calls Try.prog 9 #[.agg #[.int .i64 x, .int .i64 y, .int .i64 z]] W fun e w' => e = .returned (.bool true) ∧ Below W.heap.size W w' := by
  have h := flintlaw9_Small.calls 1 x y z true W (by unfold flintlaw9_Small.f flintlaw9_Of.f; simp only [Option.bind_some]; rw [rcheck_no h]; rfl)
  first | exact h | exact h.mono fun e w' ⟨h1, h2⟩ => ⟨h1, h2.below⟩
theorem small9_yes (W : World) {k p s : Nat} (hf : Fits k p s) (b : Bool) (hb : b = decide (s ≤ 600 ∧ k ≤ 12)) : Calls Try.prog 9 #[.agg #[.int .i64 k, .int .i64 p, .int .i64 s]] W fun e w' => e = .returned (.bool b) ∧ Below W.heap.size W w' := by
  have h := flintlaw9_Small.calls 1 k p s b W (by
    unfold flintlaw9_Small.f flintlaw9_Of.f; simp only [Option.bind_some]; rw [rcheck_yes hf]
    simp only [Option.bind_some, if_true]
    rw [hb]
    by_cases h : s ≤ 600
    · rw [if_pos (by omega)]
      simp [h]
      omega
    · rw [if_neg (by omega)]
      simp [h])
  first | exact h | exact h.mono fun e w' ⟨h1, h2⟩ => ⟨h1, h2.below⟩
/-- Rows of pages as slices of slices. -/
theorem rows_C {W : World} {base e : Nat} {v : Value} {hs : List Hd} {L : List (List Int)} {ok : Nat → Prop} (h : KH.R e W base ok v hs) (hO : OwnM W base hs L) : ∃ A c, v = .slice A L.length c ∧ KR.C W A L.length L ∧ L.length ≤ c := by
  obtain ⟨A, c, ev, hle, hC⟩ := Kd.R_reads h
  have hl : hs.length = L.length := hO.len
  rw [hl] at ev hle hC
  exact ⟨A, c, ev, KR_of_KH hC hO.toRows, hle⟩
theorem pages24_any (w : World) {k pgs sz : Nat} (hf : Fits k pgs sz) (seg : Nat) (row : Int) (A : Option Addr) (n c : Nat) (xs : List Int) (hA : KB.C w A n xs) (hx : bytes xs = true) (hseg : seg < 18446744073709551616) (hn : n ≤ k * roomN sz) :
    Calls Try.prog 24 #[.agg #[.int .i64 k, .int .i64 pgs, .int .i64 sz], .int .u64 seg, .int .i64 row, .slice A n c] w fun e w' => ∃ v z, e = .returned (.tuple #[v, .int .i64 z]) ∧ Below w.heap.size w w' := by
  by_cases h : row < 1 ∨ (pgs : Int) ≤ row
  · exact (pages24_row w hf seg row A n c h).mono fun e w' ⟨h1, h2⟩ => ⟨_, _, h1, h2⟩
  · obtain ⟨r, rfl⟩ : ∃ r : Nat, row = r := ⟨row.toNat, by omega⟩
    exact (pages24_ok w k pgs sz seg r n c hf A xs hA hx hseg (by omega) (by omega) hn).mono fun e w' ⟨v, hs, h1, _, _, h2⟩ => ⟨_, _, h1, h2⟩
theorem pages24_C (w : World) {k pgs sz : Nat} (hf : Fits k pgs sz) (seg row : Nat) (A : Option Addr) (n c : Nat) (xs : List Int) (hA : KB.C w A n xs) (hx : bytes xs = true) (hseg : seg < 18446744073709551616) (h1 : 1 ≤ row) (h2 : row < pgs) (hn : n ≤ k * roomN sz) :
    Calls Try.prog 24 #[.agg #[.int .i64 k, .int .i64 pgs, .int .i64 sz], .int .u64 seg, .int .i64 row, .slice A n c] w fun e w' => ∃ A' c', e = .returned (.tuple #[.slice A' (k + 2) c', .int .i64 0]) ∧ KR.C w' A' (k + 2) (pagesL sz seg row (payL (padL xs (k * roomN sz)) k (roomN sz))) ∧ k + 2 ≤ c' ∧ Below w.heap.size w w' :=
  (pages24_ok w k pgs sz seg row n c hf A xs hA hx hseg h1 h2 hn).mono fun e w' ⟨v, hs, e1, hH, hO, hb⟩ => by
    obtain ⟨A', c', rfl, hC, hle⟩ := rows_C hH hO
    rw [pagesL_len, payL_len] at hC hle e1
    exact ⟨A', c', e1, hC, hle, hb⟩
end Go.Proofs.Ytjnicooboiijgaa.Sg
