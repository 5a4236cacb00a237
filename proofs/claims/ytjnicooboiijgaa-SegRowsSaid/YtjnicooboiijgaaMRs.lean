/- Several texts of this session laid together: RsPairs, RsTold, RsProd, GfFind, GfTimes, GaFacts, GfRows, RsTimes, RsPar, RsMiss. -/
import Derived.Laws.BitsAllLaws
import Derived.Test.YtjnicooboiijgaaMGf
import Derived.Test.YtjnicooboiijgaaPSgx1
import Derived.Defers
import Derived.Recover
import Derived.WalkLawsBesides
import Derived.Deep.WholeRow
import Derived.Deep.MidRow
import Derived.Laws.CopyRow
import Derived.Test.YtjnicooboiijgaaPSgx4
section
/-
  gf.Pairs by hand, and what the field's printed functions tell.
-/
namespace Go.Proofs.Ytjnicooboiijgaa.PSg
open Go.RowKit Go.Proofs.YtjnicooboiijgaaW.PrintWords Go.Proofs.YtjnicooboiijgaaW.PrintLast Go.Proofs.YtjnicooboiijgaaW.PrintMore
attribute [local go_sem] max2_int min2_int max_two min_two max_three min_three max_four min_four
set_option linter.unusedVariables false
set_option linter.unusedSimpArgs false
/-! ### what the field's functions tell -/
theorem and_one (b : Nat) (hb : b < 256) : Go.bits .and .u8 (b : Int) 1 = ((b % 2 : Nat) : Int) := by
  rw [show (1 : Int) = ((1 : Nat) : Int) from rfl, u8_and_nat b 1 hb (by omega), Nat.and_one_is_mod]
theorem xor_nat (a b : Nat) (ha : a < 256) (hb : b < 256) : Go.bits .xor .u8 (a : Int) (b : Int) = ((a ^^^ b : Nat) : Int) := u8_xor_nat a b ha hb
theorem wrap_inc (i : Int) (h0 : 0 ≤ i) (h1 : i ≤ 1000000) : wrap64 (i + 1) = i + 1 := by unfold wrap64; omega
theorem xt_big (a : Nat) (ha : a < 256) (h : 128 ≤ a) : Go.bits .xor .u8 (((a : Int) * 2) % 256) 29 = ((GfM.xt a : Nat) : Int) := by
  have e : ((a : Int) * 2) % 256 = ((2 * a - 256 : Nat) : Int) := by omega
  rw [e, show (29 : Int) = ((29 : Nat) : Int) from rfl, xor_nat _ _ (by omega) (by omega)]
  unfold GfM.xt
  rw [if_neg (by omega)]
theorem xt_little (a : Nat) (h : a < 128) : ((a : Int) * 2) % 256 = ((GfM.xt a : Nat) : Int) := by
  unfold GfM.xt
  rw [if_pos h]
  omega
theorem mul_l0 : ∀ (d k : Nat) (a b o : Nat) (i : Int), (d : Int) + i = 8 → 0 ≤ i → d < k → a < 256 → b < 256 → o < 256 → gf_Mul.l0 k a b o i = some ((GfM.ml d a b o : Nat) : Int) := by
  intro d
  induction d with
  | zero =>
    intro k a b o i hd hi hk ha hb ho
    obtain ⟨k, rfl⟩ : ∃ m, k = m + 1 := ⟨k - 1, by omega⟩
    simp only [gf_Mul.l0]
    rw [if_neg (by omega)]
    rfl
  | succ d ih =>
    intro k a b o i hd hi hk ha hb ho
    obtain ⟨k, rfl⟩ : ∃ m, k = m + 1 := ⟨k - 1, by omega⟩
    simp only [gf_Mul.l0]
    rw [if_pos (by omega), and_one b hb, wrap_inc i hi (by omega), xor_nat o a ho ha]
    have hx := GfM.xt_lt a ha
    have hd2 : ((b : Int) / 2) = ((b / 2 : Nat) : Int) := by omega
    rw [hd2]
    simp only [GfM.ml]
    by_cases e : b % 2 = 1
    · rw [if_pos (by omega), if_pos e]
      by_cases h : 128 ≤ a
      · rw [if_pos (by omega), xt_big a ha h]
        exact ih k _ _ _ _ (by omega) (by omega) (by omega) hx (by omega) (GfM.xor_lt _ _ ho ha)
      · rw [if_neg (by omega), xt_little a (by omega)]
        exact ih k _ _ _ _ (by omega) (by omega) (by omega) hx (by omega) (GfM.xor_lt _ _ ho ha)
    · rw [if_neg (by omega), if_neg e]
      by_cases h : 128 ≤ a
      · rw [if_pos (by omega), xt_big a ha h]
        exact ih k _ _ _ _ (by omega) (by omega) (by omega) hx (by omega) ho
      · rw [if_neg (by omega), xt_little a (by omega)]
        exact ih k _ _ _ _ (by omega) (by omega) (by omega) hx (by omega) ho
theorem mul_ok (k a b : Nat) (hk : 9 ≤ k) (ha : a < 256) (hb : b < 256) : gf_Mul.f k a b = some ((GfM.M a b : Nat) : Int) := by
  unfold gf_Mul.f
  exact mul_l0 8 k a b 0 0 (by omega) (by omega) (by omega) ha hb (by omega)
theorem pow_l0 (a : Nat) (ha : a < 256) (n : Nat) (hn : n ≤ 255) : ∀ (d k i : Nat), d + i = n → d + 20 < k → gf_Pow.l0 k a ((GfM.P a i : Nat) : Int) n i = some (((GfM.P a n : Nat) : Int), 0) := by
  intro d
  induction d with
  | zero =>
    intro k i hd hk
    obtain ⟨k, rfl⟩ : ∃ m, k = m + 1 := ⟨k - 1, by omega⟩
    simp only [gf_Pow.l0]
    rw [if_neg (by omega), show i = n by omega]
  | succ d ih =>
    intro k i hd hk
    obtain ⟨k, rfl⟩ : ∃ m, k = m + 1 := ⟨k - 1, by omega⟩
    simp only [gf_Pow.l0]
    rw [if_pos (by omega), mul_ok k _ _ (by omega) (GfM.P_lt a i) ha]
    simp only [Option.bind_some]
    rw [wrap_inc _ (by omega) (by omega)]
    exact ih k (i + 1) (by omega) (by omega)
theorem tmod_of (n : Int) (r : Nat) (h : n % 255 = r) : n.tmod 255 = if 0 ≤ n ∨ r = 0 then (r : Int) else r - 255 := by
  rw [Int.tmod_eq_emod, h]
  by_cases h1 : 0 ≤ n
  · simp [h1]
  · by_cases h2 : r = 0
    · have : (255 : Int) ∣ n := by omega
      simp [this, h2]
    · have : ¬ (255 : Int) ∣ n := by omega
      simp [this, h2, h1]
theorem pow_ok (k a : Nat) (n : Int) (hk : 400 ≤ k) (ha : a < 256) (h0 : a ≠ 0) : gf_Pow.f k a n = some (((GfM.P a (n % 255).toNat : Nat) : Int), 0) := by
  unfold gf_Pow.f
  by_cases e : n = 0
  · rw [if_pos e, e]; rfl
  · rw [if_neg e, if_neg (by omega)]
    obtain ⟨k, rfl⟩ : ∃ m, k = m + 2 := ⟨k - 2, by omega⟩
    simp only [gf_Pow.j0]
    rw [if_neg (by decide), if_neg (by omega)]
    obtain ⟨r, hr, he⟩ : ∃ r : Nat, r < 255 ∧ (n % 255) = r := ⟨(n % 255).toNat, by omega, by omega⟩
    have hp : gf_Pow.l0 k a 1 (r : Int) 0 = some (((GfM.P a r : Nat) : Int), 0) := pow_l0 a ha r (by omega) r k 0 (by omega) (by omega)
    rw [tmod_of n r he, he, show ((r : Int)).toNat = r from rfl]
    by_cases h : 0 ≤ n ∨ r = 0
    · rw [if_pos h, if_neg (by omega)]
      exact hp
    · rw [if_neg h, if_pos (by omega), show wrap64 ((r : Int) - 255 + 255) = r by unfold wrap64; omega]
      exact hp
/-! ### gf.Pairs: the element's closure, the matrix -/
theorem pairs_zero (j : Nat) (w : World) : Calls Try.prog 69 #[.int .i64 0, .int .i64 j] w fun e w' => e = .returned (.int .u8 1) ∧ Drawn0 w w' := by
  go_enter Try.func69, Try.ntmps69
  go_wp2_with (go_at_call 70; refine (gf_Pow.calls 1000 2 0 1 0 _ (by decide)).mono ?_; rintro e w' ⟨rfl, ⟨nd, rfl⟩⟩)
  go_ret
  exact ⟨rfl, ⟨nd, rfl⟩⟩
theorem pairs_one (j : Nat) (hj : j < 255) (w : World) : Calls Try.prog 69 #[.int .i64 1, .int .i64 j] w fun e w' => e = .returned (.int .u8 ((GfM.g j : Nat) : Int)) ∧ Drawn0 w w' := by
  have hp : gf_Pow.f 1000 2 (j : Int) = some (((GfM.g j : Nat) : Int), 0) := by
    have h := pow_ok 1000 2 (j : Int) (by omega) (by omega) (by omega)
    rw [show ((j : Int) % 255).toNat = j by omega] at h
    have h2 := GfM.P_g 1 j
    rw [Nat.one_mul] at h2
    rw [← h2]
    exact h
  go_enter Try.func69, Try.ntmps69
  go_wp2_with (go_at_call 70; refine (gf_Pow.calls 1000 2 j _ 0 _ hp).mono ?_; rintro e w' ⟨rfl, ⟨nd, rfl⟩⟩)
  go_ret
  exact ⟨rfl, ⟨nd, rfl⟩⟩
def gf_Pairs.f (a0 : Int) : Option (List (List Int) × Int) := if a0 < 1 then some ([], 1) else if a0 > 255 then some ([], 1) else some (Gf.matrix 2 a0.toNat fun i j => ((GfM.g (i * j) : Nat) : Int), 0)
theorem gf_Pairs.calls (a0 : Int) (r1 : List (List Int)) (r2 : Int) (w : World) (h : gf_Pairs.f a0 = some (r1, r2)) :
    Calls Try.prog 51 #[.int .i64 a0] w fun e w' => ∃ v0_ : Value, e = .returned (.tuple #[v0_, .int .i64 r2]) ∧ Kd.S (Kd.slice 5 (Kd.int .u8)) 37 w' w.heap.size (fun _ => True) v0_ r1 ∧ Below w.heap.size w w' := by
  unfold gf_Pairs.f at h
  by_cases h1 : a0 < 1
  · rw [if_pos h1] at h
    simp only [Option.some.injEq, Prod.mk.injEq] at h
    obtain ⟨rfl, rfl⟩ := h
    have b1 : decide (a0 < 1) = true := decide_eq_true h1
    go_enter Try.func51, Try.ntmps51
    go_wp2
    go_ret2
    exact ⟨_, rfl, Kd.S_nil _ _ _ _ _, by first | exact Below.refl _ _ | exact pw_below_drewN (Below.refl _ _) _⟩
  · rw [if_neg h1] at h
    have b1 : decide (a0 < 1) = false := decide_eq_false h1
    by_cases h2 : a0 > 255
    · rw [if_pos h2] at h
      simp only [Option.some.injEq, Prod.mk.injEq] at h
      obtain ⟨rfl, rfl⟩ := h
      have b2 : decide (255 < a0) = true := decide_eq_true h2
      clear h1 h2
      go_enter Try.func51, Try.ntmps51
      go_wp2
      go_ret2
      exact ⟨_, rfl, Kd.S_nil _ _ _ _ _, by first | exact Below.refl _ _ | exact pw_below_drewN (Below.refl _ _) _⟩
    · rw [if_neg h2] at h
      simp only [Option.some.injEq, Prod.mk.injEq] at h
      obtain ⟨rfl, rfl⟩ := h
      have b2 : decide (255 < a0) = false := decide_eq_false h2
      obtain ⟨n, rfl⟩ : ∃ n : Nat, a0 = n := ⟨a0.toNat, by omega⟩
      have hn : n ≤ 255 := by omega
      have hn1 : 1 ≤ n := by omega
      clear h1 h2
      have hm := Gf.made_calls w 2 n 69 #[] (fun i j => ((GfM.g (i * j) : Nat) : Int)) (by omega) hn (Go.Proofs.enters_of Try.func69 (by kernel_rfl) rfl) (by
        intro i j hi hj W hW
        match i, hi with
        | 0, _ =>
          refine (pairs_zero j W).mono ?_
          rintro e w' ⟨rfl, hd⟩
          refine ⟨?_, hd.below⟩
          rw [Nat.zero_mul]
          rfl
        | 1, _ =>
          refine (pairs_one j (by omega) W).mono ?_
          rintro e w' ⟨rfl, hd⟩
          refine ⟨?_, hd.below⟩
          rw [Nat.one_mul])
      go_enter Try.func51, Try.ntmps51
      go_wp2_with (go_at_call 68; refine hm.mono ?_; rintro e w' ⟨b, rfl, hO⟩)
      go_ret2
      exact ⟨_, rfl, hO.owned (by omega) hn, hO.below⟩

end Go.Proofs.Ytjnicooboiijgaa.PSg
end

section
/-
  rs.give, rs.told and the closures that it is given.
-/
set_option linter.unusedVariables false
set_option linter.unusedSimpArgs false
namespace Go.Proofs.Ytjnicooboiijgaa.Rs
open Go.RowKit Go.Proofs.YtjnicooboiijgaaW.PrintWords Go.Proofs.YtjnicooboiijgaaW.PrintLast Go.Proofs.YtjnicooboiijgaaW.PrintMore Go.Proofs.Ytjnicooboiijgaa.PSg
theorem give25 (x : Int) (w : World) : Calls Try.prog 56 #[.int .i64 x] w fun e w' => e = .panicked [{ v := .iface 30 (.int .i64 x), recovered := false }] ∧ w' = w := by
  go_enter Try.func56, Try.ntmps56
  go_wp2
  exact ⟨rfl, rfl, rfl⟩
/-- told below a frame that returns: nothing. -/
theorem told_idle (p : Addr) (z : Value) (w : World) :
    CallsD Try.prog 52 #[.pointer (some p), z] .returning w fun e u' w' => e = .returned (.tuple #[]) ∧ u' = .returning ∧ w' = w := by
  refine callsD_of_wpS Try.func52 rfl fun c₀ cs hu => ?_
  apply wpS_seq
  apply wpS_region
  simp [wpOpsS, go_sem, recoverD, hu, Try.ntmps52, Exit.thenS]
  refine wpS_of_wp ?_
  simp only [Array.replicate_succ, Array.replicate_zero, List.push_toArray, List.append_toArray, List.nil_append, List.cons_append, List.setIfInBounds_toArray, List.set_cons_zero, List.set_cons_succ]
  go_wp2
  cases c₀
  simp_all [bodyPostS, results, Try.results52, Exit.thenS]
/-- Are shards of one length (empty ones apart)? -/
def sizesB : Nat → List (List Int) → Bool
  | _, [] => true
  | s, x :: l => !(decide (0 < x.length) && decide (0 < s) && decide (x.length ≠ s)) && sizesB (max s x.length) l
def panicV (x : Int) : List PanicEntry := [{ v := .iface 30 (.int .i64 x), recovered := false }]
def AlikeQ (n : Int) (l : List (List Int)) (w : World) (e : Ending) (w' : World) : Prop :=
  e = (if (l.length : Int) = n ∧ sizesB 0 l = true then .returned (.tuple #[]) else .panicked (panicV 1)) ∧ w' = w
theorem row_len {l : List (List Int)} {k : Nat} (h : k < l.length) : l.drop k = rd_L1 l (k : Int) :: l.drop (k + 1) := by
  rw [List.drop_eq_getElem_cons h]
  simp [rd_L1, List.getD, h]
set_option maxHeartbeats 4000000 in
set_option maxRecDepth 100000 in
theorem alike23 (w : World) (n : Int) (A : Option Addr) (c : Nat) (l : List (List Int)) (hC : Kd.C (Kd.slice 5 (Kd.int .u8)) w A l.length l) (hml : l.length ≤ 100000000) :
    Calls Try.prog 54 #[.int .i64 n, .slice A l.length c] w (AlikeQ n l w) := by
  have HC := Aside0.mk hC
  clear hC
  obtain ⟨m, hm⟩ : ∃ m, l.length = m := ⟨_, rfl⟩
  unfold AlikeQ
  rw [hm] at HC hml ⊢
  have HM := Aside0.mk hm
  clear hm
  go_enter Try.func54, Try.ntmps54
  by_cases hn : (m : Int) = n
  · subst hn
    go_wp2_with fail
    go_loopw [4, 6, 14] (fun sz x i W => ∃ (k s : Nat), k ≤ m ∧ i = .int .i64 k ∧ sz = .int .i64 s ∧ W = w ∧ Aside0 (sizesB s (l.drop k) = sizesB 0 l)) (fun _ _ i _ => m - (intOf i).toNat)
    case atStart => exact ⟨0, 0, Nat.zero_le _, rfl, rfl, rfl, ⟨rfl⟩⟩
    case round =>
      obtain ⟨k, s, hk, rfl, rfl, rfl, HS⟩ := hrel
      by_cases hkm : k < m
      · clear hk
        obtain ⟨ad, A0, c0, eA, hx, hl, hi⟩ := at_L1 HC.out (k : Int) (by omega) (by omega)
        cases eA
        rw [row_len (by rw [HM.out]; exact hkm)] at HS
        generalize rd_L1 l (k : Int) = x at *
        clear hi
        have hki : decide ((k : Int) < (m : Int)) = true := decide_eq_true (by omega)
        have hk0 : (0 : Int) ≤ (k : Int) := by omega
        have hkm' : (k : Int) < (m : Int) := by omega
        rw [Int.toNat_natCast] at hx
        by_cases hb : 0 < x.length
        · have hbd : decide ((0 : Int) < (x.length : Int)) = true := decide_eq_true (by omega)
          by_cases hs : 0 < s
          · have hsd : decide ((0 : Int) < (s : Int)) = true := decide_eq_true (by omega)
            by_cases he : x.length = s
            · have hed : ((x.length : Int) != (s : Int)) = false := by rw [he]; simp
              have HS' : Aside0 (sizesB (max s x.length) (l.drop (k + 1)) = sizesB 0 l) := ⟨by rw [← HS.out]; simp [sizesB, he]⟩
              go_wp2_with fail
              go_roundw
              case measure => simp [intOf]; omega
              case rel => exact ⟨k + 1, max s x.length, by omega, by go_num, by go_num, by first | rfl | trivial, HS'⟩
            · have hed : ((x.length : Int) != (s : Int)) = true := by simp; omega
              have hno : sizesB 0 l = false := by rw [← HS.out]; simp [sizesB, hb, hs, he]
              go_wp2_with (go_at_call 56; refine (give25 _ _).mono ?_; rintro e w' ⟨rfl, rfl⟩)
              exact ⟨rfl, by first | rfl | (rw [if_neg (by rw [hno]; simp)]; rfl), rfl⟩
          · have hsd : decide ((0 : Int) < (s : Int)) = false := decide_eq_false (by omega)
            have HS' : Aside0 (sizesB (max s x.length) (l.drop (k + 1)) = sizesB 0 l) := ⟨by rw [← HS.out]; simp [sizesB, hs]⟩
            go_wp2_with fail
            go_roundw
            case measure => simp [intOf]; omega
            case rel => exact ⟨k + 1, max s x.length, by omega, by go_num, by go_num, by first | rfl | trivial, HS'⟩
        · have hbd : decide ((0 : Int) < (x.length : Int)) = false := decide_eq_false (by omega)
          have HS' : Aside0 (sizesB (max s x.length) (l.drop (k + 1)) = sizesB 0 l) := ⟨by rw [← HS.out]; simp [sizesB, hb]⟩
          go_wp2_with fail
          go_roundw
          case measure => simp [intOf]; omega
          case rel => exact ⟨k + 1, max s x.length, by omega, by go_num, by go_num, by first | rfl | trivial, HS'⟩
      · obtain rfl : k = m := by omega
        have hyes : sizesB 0 l = true := by rw [← HS.out, List.drop_eq_nil_of_le (by rw [HM.out]; exact Nat.le_refl _)]; rfl
        go_wp2_with fail
        go_end0
        exact ⟨by first | rfl | (rw [if_pos ⟨rfl, hyes⟩]) | simp, rfl⟩
  · go_wp2_with (go_at_call 56; refine (give25 _ _).mono ?_; rintro e w' ⟨rfl, rfl⟩)
    exact ⟨rfl, by first | rfl | (rw [if_neg (fun h => hn h.1)]; rfl), rfl⟩
end Go.Proofs.Ytjnicooboiijgaa.Rs
end

section
/-
  rs.products: all products of an element.
-/
set_option linter.unusedVariables false
set_option linter.unusedSimpArgs false
namespace Go.Proofs.Ytjnicooboiijgaa.Rs
open Go.RowKit Go.Proofs.YtjnicooboiijgaaW.PrintWords Go.Proofs.YtjnicooboiijgaaW.PrintLast Go.Proofs.YtjnicooboiijgaaW.PrintMore Go.Proofs.Ytjnicooboiijgaa.PSg Go.Proofs.Ytjnicooboiijgaa.Gf
/-- The products of an element with all others. -/
def pT (a : Nat) : Array Value := rowCells 256 256 fun j => ((GfM.M a j : Nat) : Int)
theorem zero82 (f : Nat → Int) : Try.zeroCells129 = rowCells 256 0 f := by
  have h : rowCells 256 0 f = rowCells 256 0 (fun _ => 0) := by unfold rowCells; simp
  have h2 : Try.zeroCells129 = rowCells 256 0 (fun _ => 0) := by kernel_rfl
  exact h2.trans h.symm
theorem info129 : (Try.prog.info? 129).map (·.size) = some 256 := by kernel_rfl
theorem rowCells_get {c j k : Nat} {f : Nat → Int} (hc : k < c) : (rowCells c j f)[k]? = some (.int .u8 (if k < j then f k else 0)) := by
  unfold rowCells; simp [hc]
theorem rowCells_one (c j : Nat) (f : Nat → Int) : (rowCells c j f).all (·.oneCell') = true := by
  rw [Array.all_eq_true_iff_forall_mem]
  intro v hv
  simp only [rowCells, List.mem_toArray, List.mem_map] at hv
  obtain ⟨x, _, rfl⟩ := hv
  rfl
theorem wrap_u8 (k : Nat) (h : k < 256) : IntKind.u8.wrap (k : Int) = (k : Int) := by
  rw [show IntKind.u8.wrap (k : Int) = (k : Int) % 256 by first | rfl | simp [IntKind.wrap]]
  omega
theorem frozen_blk {w : World} {g j : Nat} {t : TypeId} {cs : Array Value} (h : w.heap[g]? = some (.cells cs t (0, 0))) : w.frozen? ⟨g, j, none⟩ = false := by
  unfold World.frozen?
  simp [h]
set_option maxHeartbeats 4000000 in
set_option maxRecDepth 100000 in
theorem products61 (w : World) (a : Nat) (ha : a < 256) : Calls Try.prog 79 #[.int .u8 a] w fun e w' => e = .returned (.agg (pT a)) ∧ Below w.heap.size w w' := by
  have HM := Aside0.mk (fun (j : Nat) (hj : j < 256) => mul_ok 100 a j (by omega) ha hj)
  have HI := Aside0.mk info129
  go_enter Try.func79, Try.ntmps79
  go_wp2_with fail
  rw [zero82 (fun j => ((GfM.M a j : Nat) : Int))]
  go_loopw [4] (fun i W => ∃ (k : Nat), k ≤ 256 ∧ i = .int .i64 k ∧ Aside0 (W.heap[w.heap.size]? = some (.cells (rowCells 256 k fun j => ((GfM.M a j : Nat) : Int)) 129 (0, 0))) ∧ Aside0 (Below w.heap.size w W)) (fun i _ => 256 - (intOf i).toNat)
  case atStart => exact ⟨0, Nat.zero_le _, rfl, ⟨heap_alloc_last _ _⟩, ⟨below_alloc (Below.refl _ _) _⟩⟩
  case round =>
    obtain ⟨k, hk, rfl, HG, HB⟩ := hrel
    by_cases hk2 : k < 256
    · clear hk
      have hki : decide ((k : Int) < 256) = true := decide_eq_true (by omega)
      have hkw : IntKind.u8.wrap (k : Int) = (k : Int) := wrap_u8 k hk2
      have hz : wr.frozen? ⟨w.heap.size, k, none⟩ = false := frozen_blk HG.out
      have hc : wr.cell? ⟨w.heap.size, k, none⟩ = some (.int .u8 0) := by
        rw [cell_of_row wr w.heap.size k _ 129 (0, 0) HG.out, rowCells_get hk2, if_neg (Nat.lt_irrefl _)]
      go_wp2_with (go_at_call 78; refine (gf_Mul.calls 100 a k _ _ (HM.out k hk2)).mono ?_; rintro e w1 ⟨rfl, ⟨nd, rfl⟩⟩)
      have HG2 : Aside0 (((wr.drewN nd).setCell ⟨w.heap.size, k, none⟩ (.int .u8 ((GfM.M a k : Nat) : Int))).heap[w.heap.size]? = some (.cells (rowCells 256 (k + 1) fun j => ((GfM.M a j : Nat) : Int)) 129 (0, 0))) := ⟨by
        have := blkset (w := wr.drewN nd) HG.out k (.int .u8 ((GfM.M a k : Nat) : Int))
        rw [this]
        exact congrArg (fun c => some (Obj.cells c 129 (0, 0))) (rowCells_set (c := 256) (j := k) (f := fun j => ((GfM.M a j : Nat) : Int)))⟩
      have HB2 := Aside0.mk (below_set (g := w.heap.size) (j := k) (v := .int .u8 ((GfM.M a k : Nat) : Int)) (pw_below_drewN HB.out nd) (Nat.le_refl _))
      clear HG HB
      go_roundw
      case measure => simp [intOf]; omega
      case rel => exact ⟨k + 1, by omega, by go_num, HG2, HB2⟩
    · obtain rfl : k = 256 := by omega
      replace HG : Aside0 (wr.heap[w.heap.size]? = some (.cells (pT a) 129 (0, 0))) := ⟨HG.out⟩
      go_wp2_with (first
        | ((with_reducible refine gate_dst (N := 14) rfl ?_); refine wpList_load_row rfl 129 (.tmp 2) rfl w.heap.size rfl 129 (pT a) (0, 0) _ HG.out Try.underlying129 rfl HI.out ?_)
        | ((with_reducible refine gate_store (t := 129) (p := 2) (v := .tmp 14) rfl ?_); refine wpList_store_row rfl 129 (.tmp 2) (.tmp 14) rfl w.heap.size (pT a) rfl rfl 129 (pT a) HG.out HI.out rfl (rowCells_one _ _ _) ?_; rw [setRow_self _ _ _ _ _ HG.out]))
      refine bodyPost_ret (results_cell_row rfl _ _ w.heap.size 129 (pT a) (0, 0) _ rfl HG.out Try.underlying129 rfl HI.out) rfl ?_
      exact ⟨rfl, HB.out⟩
end Go.Proofs.Ytjnicooboiijgaa.Rs
end

section
/-
  slices.IndexFunc and slices.ContainsFunc at rows of bytes and at whole numbers: whatever the predicate is, as long as its call leaves old memory alone. gf.Right by them.
-/
namespace Go.Proofs.Ytjnicooboiijgaa.Gf
open Go.RowKit Go.Proofs.YtjnicooboiijgaaW.PrintWords

abbrev KB : Kd Int := Kd.int .u8
abbrev KR : Kd (List Int) := Kd.slice 5 (Kd.int .u8)
def row (l : List (List Int)) (i : Nat) : List Int := l.getD i []

theorem rows_at {w : World} {A : Option Addr} {n : Nat} {l : List (List Int)} (h : KR.C w A n l) {i : Nat} (hi : i < n) :
    ∃ ad A' c', A = some ad ∧ w.cell? (ad.add i) = some (.slice A' (row l i).length c') ∧ (row l i).length ≤ c' ∧ KB.C w A' (row l i).length (row l i) := by
  obtain ⟨ad, c, e, _, hK, hc⟩ := Kd.C_get h ([] : List Int) (i : Int) (by omega) (by omega)
  obtain ⟨A', c', rfl, h1, h2⟩ := hK
  refine ⟨ad, A', c', e, ?_, h1, h2⟩
  have := hc 0 _ rfl
  rwa [show KR.sz = 1 from rfl, Nat.mul_one, Nat.add_zero, Int.toNat_natCast] at this

def firstIdx (n : Nat) (p : Nat → Bool) : Int := match (List.range n).find? p with | some i => (i : Int) | none => -1
/-! the same at whole numbers -/
/-- May a matrix be? -/
def rightB (l : List (List Int)) : Bool := decide (1 ≤ l.length) && (decide (l.length ≤ 255) && (decide (1 ≤ (row l 0).length) && (decide ((row l 0).length ≤ 255) && !((List.range l.length).any fun i => decide ((row l i).length ≠ (row l 0).length)))))

theorem below1 (w : World) (o : Obj) : Below w.heap.size w (w.alloc o) := (Below.refl _ _).alloc (Nat.le_refl _) o
end Go.Proofs.Ytjnicooboiijgaa.Gf
end

section
/-
  The walk of gf.Matrix.Times: the product of two matrices of bytes.
-/
set_option linter.unusedVariables false
set_option linter.unusedSimpArgs false
namespace Go.Proofs.Ytjnicooboiijgaa.Gf
open Go.RowKit Go.Proofs.YtjnicooboiijgaaW.PrintWords Go.Proofs.YtjnicooboiijgaaW.PrintLast Go.Proofs.Ytjnicooboiijgaa.PSg

/-- The sum of bytes. -/
def sx : Nat → (Nat → Nat) → Nat
  | 0, _ => 0
  | n + 1, f => sx n f ^^^ f n
theorem sx_lt (n : Nat) (f : Nat → Nat) (h : ∀ k, k < n → f k < 256) : sx n f < 256 := by
  induction n with
  | zero => show 0 < 256; omega
  | succ n ih => exact GfM.xor_lt _ _ (ih (fun k hk => h k (by omega))) (h n (by omega))

/-- Byte j of row i. -/
def byt (l : List (List Int)) (i j : Nat) : Nat := ((row l i).getD j 0).toNat
def okB (l : List (List Int)) : Bool := l.all fun r => r.all fun x => decide (0 ≤ x) && decide (x < 256)
theorem okB_at {l : List (List Int)} (h : okB l = true) (i j : Nat) : byt l i j < 256 ∧ (row l i).getD j 0 = ((byt l i j : Nat) : Int) := by
  have : 0 ≤ (row l i).getD j 0 ∧ (row l i).getD j 0 < 256 := by
    unfold row
    simp only [List.getD_eq_getElem?_getD]
    by_cases hi : i < l.length
    · rw [List.getElem?_eq_getElem hi]
      by_cases hj : j < (l[i]).length
      · simp only [okB, List.all_eq_true] at h
        have := h l[i] (List.getElem_mem hi) _ (List.getElem_mem hj)
        simp only [Bool.and_eq_true, decide_eq_true_eq] at this
        simpa [List.getElem?_eq_getElem hj] using this
      · simp [List.getElem?_eq_none (Nat.le_of_not_lt hj)]
    · simp [List.getElem?_eq_none (Nat.le_of_not_lt hi)]
  unfold byt
  omega
theorem byte_at {w : World} {A : Option Addr} {r : List Int} (h : KB.C w A r.length r) {j : Nat} (hj : j < r.length) : ∃ ad, A = some ad ∧ w.cell? (ad.add j) = some (.int .u8 (r.getD j 0)) := by
  obtain ⟨ad, e, hc⟩ := Kd.at_int h (j : Int) (by omega) (by omega)
  refine ⟨ad, e, ?_⟩
  rw [Int.toNat_natCast] at hc
  exact hc

/-- Element i, j of the product. -/
def prod (lm lo : List (List Int)) (i j : Nat) : Nat := sx lo.length fun k => GfM.M (byt lm i k) (byt lo k j)
end Go.Proofs.Ytjnicooboiijgaa.Gf
end

section
/-
  What the field's printed functions tell, program and reference: products, powers, quotients, logarithms.
-/
namespace Go.Proofs.Ytjnicooboiijgaa.GaFacts
open Go.RowKit Go.Proofs.Ytjnicooboiijgaa.PSg Go.Proofs.YtjnicooboiijgaaW.PrintWords Go.Proofs.YtjnicooboiijgaaW.PrintLast

theorem byte {a : Int} (h : (Lit.int .u8 a).wf = true) : ∃ n : Nat, n < 256 ∧ a = n := by
  simp [Lit.wf, IntKind.min, IntKind.max, IntKind.signed, IntKind.bits] at h
  exact ⟨a.toNat, by omega, by omega⟩
theorem ofInt_i64 (a : Nat) (ha : a < 9223372036854775808) : (BitVec.ofInt 64 (a : Int)).toNat = a := by
  rw [BitVec.ofInt_natCast, BitVec.toNat_ofNat]; exact Nat.mod_eq_of_lt (by omega)
theorem i64_and_nat (a b : Nat) (ha : a < 9223372036854775808) (hb : b < 9223372036854775808) : bits .and .i64 (a : Int) (b : Int) = ((a &&& b : Nat) : Int) := by
  have hx : a &&& b < 2 ^ 63 := Nat.and_lt_two_pow _ (by omega)
  show IntKind.i64.wrap ((BitVec.ofInt 64 (a : Int) &&& BitVec.ofInt 64 (b : Int)).toNat : Int) = _
  rw [BitVec.toNat_and, ofInt_i64 a ha, ofInt_i64 b hb, IntKind.wrap_i64]
  omega
theorem i64_xor_nat (a b : Nat) (ha : a < 9223372036854775808) (hb : b < 9223372036854775808) : bits .xor .i64 (a : Int) (b : Int) = ((a ^^^ b : Nat) : Int) := by
  have hx : a ^^^ b < 2 ^ 63 := Nat.xor_lt_two_pow (by omega) (by omega)
  show IntKind.i64.wrap ((BitVec.ofInt 64 (a : Int) ^^^ BitVec.ofInt 64 (b : Int)).toNat : Int) = _
  rw [BitVec.toNat_xor, ofInt_i64 a ha, ofInt_i64 b hb, IntKind.wrap_i64]
  omega
theorem ml_zero : ∀ (d a o : Nat), GfM.ml d a 0 o = o
  | 0, _, _ => rfl
  | d + 1, a, o => by
    simp only [GfM.ml]
    rw [if_neg (by omega)]
    exact ml_zero d _ o
theorem rmul_l0 : ∀ (d k a b o : Nat), d ≤ 8 → b < 2 ^ d → d < k → a < 256 → o < 256 → flintref5_Mul.l0 k o a b = some ((GfM.ml d a b o : Nat) : Int) := by
  intro d
  induction d with
  | zero =>
    intro k a b o _ hb hk ha ho
    obtain ⟨k, rfl⟩ : ∃ m, k = m + 1 := ⟨k - 1, by omega⟩
    have : b = 0 := by simpa using hb
    simp only [flintref5_Mul.l0]
    rw [if_neg (by omega)]
    have : (o : Int) % 256 = o := by omega
    rw [this]
    rfl
  | succ d ih =>
    intro k a b o h8 hb hk ha ho
    obtain ⟨k, rfl⟩ : ∃ m, k = m + 1 := ⟨k - 1, by omega⟩
    by_cases hb0 : b = 0
    · rw [hb0, ml_zero]
      simp only [flintref5_Mul.l0]
      rw [if_neg (by omega)]
      have : (o : Int) % 256 = o := by omega
      rw [this]
    · have hbd : b / 2 < 2 ^ d := by rw [Nat.pow_succ] at hb; omega
      have h256 : b < 256 := by
        have : (2 : Nat) ^ (d + 1) ≤ 2 ^ 8 := Nat.pow_le_pow_right (by omega) h8
        omega
      have hx := GfM.xt_lt a ha
      have hxo := GfM.xor_lt o a ho ha
      have hand : bits .and .i64 (b : Int) 1 = ((b % 2 : Nat) : Int) := by
        rw [show (1 : Int) = ((1 : Nat) : Int) from rfl, i64_and_nat b 1 (by omega) (by omega), Nat.and_one_is_mod]
      have hw : wrap64 ((a : Int) * 2) = ((2 * a : Nat) : Int) := by unfold wrap64; omega
      have hbx : 128 ≤ a → bits .xor .i64 ((2 * a : Nat) : Int) 285 = ((GfM.xt a : Nat) : Int) := fun h => by
        rw [show (285 : Int) = ((285 : Nat) : Int) from rfl, i64_xor_nat _ _ (by omega) (by omega), GfM.xt_form a ha, show a / 128 = 1 by omega]
      have hlx : a < 128 → ((2 * a : Nat) : Int) = ((GfM.xt a : Nat) : Int) := fun h => by
        unfold GfM.xt; rw [if_pos h]
      have hd2 : ((b : Int) / 2) = ((b / 2 : Nat) : Int) := by omega
      simp only [flintref5_Mul.l0]
      rw [if_pos (by omega), hand, hw, hd2, i64_xor_nat o a (by omega) (by omega)]
      simp only [GfM.ml]
      by_cases e : b % 2 = 1
      · rw [if_pos (by omega), if_pos e]
        by_cases h : 128 ≤ a
        · rw [if_pos (by omega), hbx h]
          exact ih k _ _ _ (by omega) hbd (by omega) hx hxo
        · rw [if_neg (by omega), hlx (by omega)]
          exact ih k _ _ _ (by omega) hbd (by omega) hx hxo
      · rw [if_neg (by omega), if_neg e]
        by_cases h : 128 ≤ a
        · rw [if_pos (by omega), hbx h]
          exact ih k _ _ _ (by omega) hbd (by omega) hx ho
        · rw [if_neg (by omega), hlx (by omega)]
          exact ih k _ _ _ (by omega) hbd (by omega) hx ho
theorem w64 (a : Nat) (h : a < 256) : wrap64 (a : Int) = a := by unfold wrap64; omega
theorem rmul_ok (k a b : Nat) (hk : 9 ≤ k) (ha : a < 256) (hb : b < 256) : flintref5_Mul.f k a b = some ((GfM.M a b : Nat) : Int) := by
  unfold flintref5_Mul.f
  rw [w64 a ha, w64 b hb]
  exact rmul_l0 8 k a b 0 (by omega) hb (by omega) ha (by omega)
end Go.Proofs.Ytjnicooboiijgaa.GaFacts
end

section
/-
  Rows of bytes that the call owns, written in place: gf.scale, gf.plus, and the reference's scale and mix; each turns one block and nothing else.
-/
set_option linter.unusedVariables false
set_option linter.unusedSimpArgs false
namespace Go.Proofs.Ytjnicooboiijgaa.Gf
open Go.RowKit Go.Proofs.YtjnicooboiijgaaW.PrintWords Go.Proofs.YtjnicooboiijgaaW.PrintLast Go.Proofs.Ytjnicooboiijgaa.PSg

/-- A row's cells. -/
def byC (c : Nat) (f : Nat → Nat) : Array Value := ((List.range c).map fun j => Value.int .u8 ((f j : Nat) : Int)).toArray
theorem byC_at {c j : Nat} {f : Nat → Nat} (h : j < c) : (byC c f)[j]? = some (.int .u8 ((f j : Nat) : Int)) := by simp [byC, h]
theorem byC_set {c j : Nat} {f : Nat → Nat} (y : Nat) : (byC c f).setIfInBounds j (.int .u8 ((y : Nat) : Int)) = byC c (fun q => if q = j then y else f q) := by
  apply Array.ext
  · simp [byC]
  · intro k h1 h2
    simp [byC] at h1
    rw [Array.getElem_setIfInBounds]
    simp [byC]
    by_cases e : j = k
    · subst e; simp
    · simp [e, Ne.symm e]
    simpa [byC] using h1
theorem byC_congr {c : Nat} {f g : Nat → Nat} (h : ∀ j, j < c → f j = g j) : byC c f = byC c g := by
  simp only [byC]
  congr 1
  apply List.map_congr_left
  intro j hj
  rw [h j (by simpa using hj)]
/-- Block d is a row of bytes. -/
def RowAt (w : World) (d c : Nat) (f : Nat → Nat) : Prop := w.heap[d]? = some (.cells (byC c f) 5 (0, 0))
theorem RowAt.cell {w : World} {d c j : Nat} {f : Nat → Nat} (h : RowAt w d c f) (hj : j < c) : w.cell? ⟨d, j, none⟩ = some (.int .u8 ((f j : Nat) : Int)) := by
  rw [cell_of_row w d j _ 5 (0, 0) h, byC_at hj]
theorem RowAt.frozen {w : World} {d c : Nat} {f : Nat → Nat} (h : RowAt w d c f) (j : Nat) : w.frozen? ⟨d, j, none⟩ = false := by
  unfold RowAt at h
  simp [World.frozen?, h]
theorem RowAt.set_ {w : World} {d c : Nat} {f : Nat → Nat} (h : RowAt w d c f) (j y : Nat) : RowAt (w.setCell ⟨d, j, none⟩ (.int .u8 ((y : Nat) : Int))) d c (fun q => if q = j then y else f q) := by
  have := blkset h j (.int .u8 ((y : Nat) : Int))
  rw [byC_set] at this
  exact this
theorem RowAt.far {w : World} {d c : Nat} {f : Nat → Nat} (h : RowAt w d c f) {p : Addr} (hp : d ≠ p.block) (u : Value) : RowAt (w.setCell p u) d c f := blkfar h hp u
theorem RowAt.same {w : World} {d c : Nat} {f g : Nat → Nat} (h : RowAt w d c f) (e : ∀ j, j < c → f j = g j) : RowAt w d c g := by
  unfold RowAt at h ⊢
  rw [h, byC_congr e]
theorem RowAt.drewN {w : World} {d c : Nat} {f : Nat → Nat} (h : RowAt w d c f) (n : Nat) : RowAt (w.drewN n) d c f := h
theorem RowAt.drew {w : World} {d c : Nat} {f : Nat → Nat} (h : RowAt w d c f) : RowAt w.drew d c f := h
theorem RowAt.kept {w w' : World} {d c : Nat} {f : Nat → Nat} {row : Option Nat} (h : RowAt w d c f) (hg : w.grownBy w' row) (hne : some d ≠ row) : RowAt w' d c f := (hg.block d (heap_lt h) hne).trans h
/-- A row plus another one's multiple. -/
def mixf (f h : Nat → Nat) (y : Nat) : Nat → Nat := fun j => f j ^^^ GfM.M (h j) y
/-! the reference's -/
end Go.Proofs.Ytjnicooboiijgaa.Gf
end

section
/-
  rs.times: a row times shards, byte by byte.
-/
set_option linter.unusedVariables false
set_option linter.unusedSimpArgs false
namespace Go.Proofs.Ytjnicooboiijgaa.Rs
open Go.RowKit Go.Proofs.YtjnicooboiijgaaW.PrintWords Go.Proofs.YtjnicooboiijgaaW.PrintLast Go.Proofs.YtjnicooboiijgaaW.PrintMore Go.Proofs.Ytjnicooboiijgaa.PSg Go.Proofs.Ytjnicooboiijgaa.Gf
/-- A row of bytes as whole numbers. -/
def rowL (m : Nat) (f : Nat → Nat) : List Int := (List.range m).map fun x => ((f x : Nat) : Int)
theorem rowL_length (m : Nat) (f : Nat → Nat) : (rowL m f).length = m := by simp [rowL]
theorem rowAt_R {w : World} {d c base : Nat} {f : Nat → Nat} {ok : Nat → Prop} (h : RowAt w d c f) (hb : base ≤ d) (hc : c ≤ 1000000000) (hok : ok d) :
    Kd.R (Kd.int .u8) 5 w base ok (.slice (some ⟨d, 0, none⟩) c c) (rowL c f) := by
  refine Kd.R_of_own ⟨?_, .inr ⟨d, c, byC c f, ?_, hb, h, ?_, ?_, ?_, ?_⟩⟩ ?_
  · simp [encs]
  · simp [rowL_length]
  · simp [rowL_length]
  · unfold maxLen; omega
  · simp [byC]
  · rw [List.take_of_length_le (by simp [byC, rowL_length])]
    simp [byC, encs, rowL]
  · intro k hk
    have hk2 : d = k := by simpa [Value.ownBlock] using hk
    subst hk2
    exact hok
theorem make_row (n : Nat) (hn : n ≤ 1000000) (w : World) :
    (Instr.makeSlice 37 (.int .i64 (n : Int)) (.int .i64 (n : Int))).run Try.prog w = .ok (.slice (some ⟨w.heap.size, 0, none⟩) n n) (w.alloc (.cells (byC n fun _ => 0) 5)) := by
  rw [mk53 n hn w]
  have : rowCells n 0 (fun _ => (0 : Int)) = byC n fun _ => 0 := by simp [rowCells, byC]
  rw [this]
/-- A column's sum of products, the first i of them. -/
def tcol (ρ : Nat → Nat) (l : List (List Int)) (i x : Nat) : Nat := sx i fun q => GfM.M (ρ q) (byt l q x)
theorem tcol_succ (ρ : Nat → Nat) (l : List (List Int)) (i x : Nat) : tcol ρ l (i + 1) x = tcol ρ l i x ^^^ GfM.M (ρ i) (byt l i x) := rfl
theorem tcol_lt {ρ : Nat → Nat} {l : List (List Int)} (h : ∀ i, ρ i < 256) (i x : Nat) : tcol ρ l i x < 256 := sx_lt _ _ fun k _ => GfM.M_lt _ _ (h k)
theorem store_prod {W w1 : World} {g m : Nat} {f : Nat → Nat} (h : RowAt W g m f) (hb : Below W.heap.size W w1) (o : Obj) : RowAt (w1.alloc o) g m f :=
  (Below.heap_alloc w1 o g (by have := heap_lt h; have := hb.size; omega)).trans ((hb.block g (heap_lt h)).trans h)
theorem heap_far {W : World} {G g q : Nat} {o : Obj} {v : Value} (h : W.heap[G]? = some o) (hne : g ≠ G) : (W.setCell ⟨g, q, none⟩ v).heap[G]? = some o :=
  blkfar h (p := ⟨g, q, none⟩) (fun e => hne e.symm) v
def times32.T9 : Bool × List (List Nat × List Nat) := (true, [([], []), ([], []), ([0, 1], [0, 1]), ([2], [2]), ([], []), ([4], [4]), ([5], [5]), ([3, 6], [3, 6]), ([0, 1, 0, 1, 2, 3, 4, 5, 6, 7], [0, 1]), ([8, 7, 0, 1, 2, 3, 4, 5, 6, 7], [7, 8])])
def times32.B9 : List Nat := [0, 0, 3, 7, 0, 16, 48, 127, 255, 511]
theorem times32.tab9 : rtab .any (opsOf Try.f71 9) = times32.T9 := by kernel_rfl
theorem times32.bits9 : waitsOk times32.T9.2 times32.B9 = true := by kernel_rfl
set_option maxHeartbeats 8000000 in
set_option maxRecDepth 100000 in
theorem times32 (w : World) (A : Option Addr) (c : Nat) (rw : List Int) (hR : KB.C w A rw.length rw) (ρ : Nat → Nat) (hρ : ∀ i, ρ i < 256) (hrw : ∀ i, i < rw.length → rw.getD i 0 = ((ρ i : Nat) : Int))
    (B : Option Addr) (d : Nat) (l : List (List Int)) (hL : KR.C w B l.length l) (n m : Nat) (hn : l.length = n) (hn0 : 0 < n) (hnr : n ≤ rw.length) (hn9 : n ≤ 1000000) (hm9 : m ≤ 1000000)
    (hok : okB l = true) (hm : ∀ i, i < n → (row l i).length = m) :
    Calls Try.prog 71 #[.slice A rw.length c, .slice B n d] w fun e w' => ∃ g, e = .returned (.slice (some ⟨g, 0, none⟩) m m) ∧ w.heap.size ≤ g ∧ RowAt w' g m (tcol ρ l n) ∧ Below w.heap.size w w' := by
  rw [hn] at hL
  have HL := Aside0.mk hL
  have HR := Aside0.mk hR
  have HRW := Aside0.mk hrw
  have HOK := Aside0.mk hok
  have HM := Aside0.mk hm
  have HT := Aside0.mk (tcol_lt (l := l) hρ)
  have HP := Aside0.mk (fun (i : Nat) (W : World) => products61 W (ρ i) (hρ i))
  obtain ⟨nr, hnr'⟩ : ∃ nr, rw.length = nr := ⟨_, rfl⟩
  rw [hnr'] at HRW HR hnr ⊢
  have HNR := Aside0.mk hnr'
  obtain ⟨ad, A0, c0, eA, hx, hl, hi⟩ := rows_at hL (i := 0) hn0
  rw [hm 0 hn0] at hx
  subst eA
  clear hl hi hR hL hok hm hrw hnr' hn
  have hn0' : (0 : Int) < (n : Int) := by omega
  have hmk := make_row m hm9
  rw [show ad.add 0 = ad by simp [Addr.add]] at hx
  go_enter Try.func71, Try.ntmps71
  go_wp2_with fail
  have HZ := Aside0.mk (show RowAt (w.alloc (.cells (byC m fun _ => 0) 5)) w.heap.size m (tcol ρ l 0) from heap_alloc_last _ _)
  have HB0 := Aside0.mk (below_alloc (Below.refl w.heap.size w) (.cells (byC m fun _ => 0) 5))
  clear hmk hx hn0'
  generalize w.alloc (.cells (byC m fun _ => 0) 5) = wz at *
  obtain ⟨g, hg⟩ : ∃ g, w.heap.size = g := ⟨_, rfl⟩
  have HG := Aside0.mk hg
  rw [hg] at HZ ⊢
  clear hg
  go_loopw [18] (fun i W => ∃ (k : Nat), k ≤ n ∧ i = .int .i64 k ∧ Aside0 (RowAt W g m (tcol ρ l k)) ∧ Aside0 (Below w.heap.size w W)) (fun i _ => n - (intOf i).toNat)
  case atStart => exact ⟨0, Nat.zero_le _, rfl, HZ, HB0⟩
  case round =>
    clear HZ HB0
    clear wz
    obtain ⟨k, hk, rfl, HO, HB⟩ := hrel
    by_cases hkn : k < n
    · clear hk
      obtain ⟨ad', A1, c1, eA, hx, hl, hi⟩ := rows_at HL.out (i := k) hkn
      obtain rfl : ad = ad' := by injection eA
      rw [HM.out k hkn] at hx hi
      replace hx := pw_cell_below HB.out hx
      obtain ⟨ar, eR, hr⟩ := byte_at (r := rw) (by rw [HNR.out]; exact HR.out) (j := k) (by rw [HNR.out]; omega)
      subst eR
      rw [HRW.out k (by omega)] at hr
      replace hr := pw_cell_below HB.out hr
      have HPk := Aside0.mk (HP.out k)
      have HI := Aside0.mk hi
      have HTk := Aside0.mk (tcol_succ ρ l k)
      have hrk : ρ k < 256 := hρ k
      have HKn := Aside0.mk hkn
      have hki : decide ((k : Int) < (n : Int)) = true := decide_eq_true (by omega)
      have hk0 : (0 : Int) ≤ (k : Int) := by omega
      have hk1 : (k : Int) < (n : Int) := by omega
      have hk2 : (k : Int) < (nr : Int) := by omega
      clear hi eA hl
      obtain ⟨y, hy⟩ : ∃ y, ρ k = y := ⟨_, rfl⟩
      rw [hy] at hr HPk HTk hrk
      clear hy
      go_wp2_with (first
        | (go_at_call 79; refine Calls.mono (HPk.out _) ?_; rintro e w1 ⟨rfl, hb1⟩; have HB1 := Aside0.mk hb1; clear hb1)
        | ((with_reducible refine gate_store (t := 129) (p := 8) (v := .tmp 27) rfl ?_); refine wpList_store_row rfl 129 (.tmp 8) (.tmp 27) rfl w1.heap.size (pT y) rfl rfl 129 Try.zeroCells129 (heap_alloc_last _ _) info129 rfl (rowCells_one _ _ _) ?_; rw [World.setRow_alloc_new]))
      have HW := Aside0.mk (store_prod HO.out HB1.out (.cells (pT y) 129))
      have HT2 := Aside0.mk (heap_alloc_last w1 (.cells (pT y) 129))
      have HB2 := Aside0.mk (below_alloc (below_then HB.out HB.out.size HB1.out) (.cells (pT y) 129))
      have hgG : g ≠ w1.heap.size := by
        have h1 := heap_lt HO.out
        have h2 := HB1.out.size
        omega
      generalize w1.alloc (.cells (pT y) 129) = wz at *
      generalize w1.heap.size = G at *
      clear HB1 HO HB hx hr hki hk0 hk1 hk2
      go_loopw [30] (fun i W => ∃ (q : Nat), q ≤ m ∧ i = .int .i64 q ∧ Aside0 (RowAt W g m (fun x => if x < q then tcol ρ l (k + 1) x else tcol ρ l k x)) ∧ Aside0 (W.heap[G]? = some (.cells (pT y) 129 (0, 0))) ∧ Aside0 (Below w.heap.size w W)) (fun i _ => m - (intOf i).toNat)
      case atStart => exact ⟨0, Nat.zero_le _, rfl, ⟨HW.out.same (fun j _ => by simp)⟩, HT2, HB2⟩
      case round =>
        clear HW HT2 HB2
        clear wz
        obtain ⟨q, hq, rfl, HO, HT2, HB⟩ := hrel
        by_cases hqm : q < m
        · clear hq
          have hcell := HO.out.cell hqm
          rw [if_neg (Nat.lt_irrefl q)] at hcell
          have hfr := HO.out.frozen q
          obtain ⟨ai, eI, hi⟩ := byte_at (r := row l k) (by rw [HM.out k HKn.out]; exact HI.out) (j := q) (by rw [HM.out k HKn.out]; exact hqm)
          have hb := okB_at HOK.out k q
          rw [hb.2] at hi
          subst eI
          replace hi := pw_cell_below HB.out hi
          have hprod : wr.cell? ⟨G, byt l k q, none⟩ = some (.int .u8 ((GfM.M y (byt l k q) : Nat) : Int)) := by
            rw [cell_of_row wr G (byt l k q) _ 129 (0, 0) HT2.out]
            unfold pT
            rw [rowCells_get hb.1, if_pos hb.1]
          have hxr : Go.bits .xor .u8 ((tcol ρ l k q : Nat) : Int) ((GfM.M y (byt l k q) : Nat) : Int) = ((tcol ρ l (k + 1) q : Nat) : Int) := by
            rw [xor_nat _ _ (HT.out k q) (GfM.M_lt _ _ hrk), HTk.out q]
          have HO2 := Aside0.mk (fun (W : World) (hW : RowAt W g m (fun x => if x < q then tcol ρ l (k + 1) x else tcol ρ l k x)) => ((hW.set_ q (tcol ρ l (k + 1) q)).same (fun j _ => by
            by_cases e : j = q
            · subst e; simp
            · by_cases h : j < q
              · rw [if_neg e, if_pos h, if_pos (by omega)]
              · rw [if_neg e, if_neg h, if_neg (by omega)]) : RowAt (W.setCell ⟨g, q, none⟩ (.int .u8 ((tcol ρ l (k + 1) q : Nat) : Int))) g m (fun x => if x < q + 1 then tcol ρ l (k + 1) x else tcol ρ l k x)))
          have hqi : decide ((q : Int) < (m : Int)) = true := decide_eq_true (by omega)
          have hq0 : (0 : Int) ≤ (q : Int) := by omega
          have hq1 : (q : Int) < (m : Int) := by omega
          have hb0 : (0 : Int) ≤ ((byt l k q : Nat) : Int) := by omega
          have hb1 : ((byt l k q : Nat) : Int) < 256 := by have := hb.1; omega
          clear hb
          generalize byt l k q = b at *
          generalize GfM.M y b = s at *
          generalize tcol ρ l (k + 1) q = t' at *
          generalize tcol ρ l k q = t at *
          go_wp2_with fail
          refine start_ (n := 10) (S := fun w' => w'.cell? ⟨g, q, none⟩ = some (.int .u8 (t : Int)) ∧ w'.cell? ⟨G, b, none⟩ = some (.int .u8 (s : Int))) (ds := [9]) #[false, false, false, false, false, false, false, false, false, false] (by kernel_rfl) rfl rfl ⟨hcell, hprod⟩ (fun hHeld => ?_)
          refine with_tabW times32.tab9 times32.bits9 (fun HT_ HW_ => ?_)
          refine pure_ (i := 0) (N := some 35) (v := ?_) (a' := ?_) #[true, false, false, false, false, false, false, false, false, false] rfl rfl (any_of HT_.out (by kernel_rfl)) (fun _ _ _ h => h) (Or.inl ⟨by rfl, ?_⟩) ?_ ?_
          rotate_left
          · intro w'
            go_simp
            with_reducible rfl
          rotate_left
          · simp only [Act.put, List.setIfInBounds_toArray, List.set_cons_zero, List.set_cons_succ, i64_w, i32_w]
            rfl
          refine pure_ (i := 1) (N := some 36) (v := ?_) (a' := ?_) #[true, true, false, false, false, false, false, false, false, false] rfl rfl (any_of HT_.out (by kernel_rfl)) (fun _ _ _ h => h) (Or.inl ⟨by rfl, ?_⟩) ?_ ?_
          rotate_left
          · intro w'
            go_simp
            with_reducible rfl
          rotate_left
          · simp only [Act.put, List.setIfInBounds_toArray, List.set_cons_zero, List.set_cons_succ, i64_w, i32_w]
            rfl
          refine pure_ (i := 2) (N := some 37) (v := ?_) (a' := ?_) #[true, true, true, false, false, false, false, false, false, false] rfl rfl (any_of HT_.out (by kernel_rfl)) (fun _ _ _ h => h) (Or.inl ⟨by rfl, ?_⟩) ?_ ?_
          rotate_left
          · intro w'
            go_simp
            with_reducible rfl
          rotate_left
          · simp only [Act.put, List.setIfInBounds_toArray, List.set_cons_zero, List.set_cons_succ, i64_w, i32_w]
            rfl
          refine pure_ (i := 4) (N := some 39) (v := ?_) (a' := ?_) #[true, true, true, false, true, false, false, false, false, false] rfl rfl (any_of HT_.out (by kernel_rfl)) (fun _ _ _ h => h) (Or.inl ⟨by rfl, ?_⟩) ?_ ?_
          rotate_left
          · intro w'
            go_simp
            with_reducible rfl
          rotate_left
          · simp only [Act.put, List.setIfInBounds_toArray, List.set_cons_zero, List.set_cons_succ, i64_w, i32_w]
            rfl
          refine pure_ (i := 5) (N := some 40) (v := ?_) (a' := ?_) #[true, true, true, false, true, true, false, false, false, false] rfl rfl (any_of HT_.out (by kernel_rfl)) (fun _ _ _ h => h) (Or.inl ⟨by rfl, ?_⟩) ?_ ?_
          rotate_left
          · intro w'
            go_simp
            with_reducible rfl
          rotate_left
          · simp only [Act.put, List.setIfInBounds_toArray, List.set_cons_zero, List.set_cons_succ, i64_w, i32_w]
            rfl
          refine take_ (i := 3) (N := some 38) (v := ?_) (a' := ?_) #[true, true, true, true, true, true, false, false, false, false] rfl rfl (take_ofW HT_.out HW_.out (by kernel_rfl)) (fun _ _ _ h => h) (Or.inl ⟨by rfl, ?_⟩) hHeld ?_ ?_
          rotate_left
          · rintro w' ⟨s0, s1⟩
            go_simp
            with_reducible rfl
          rotate_left
          · simp only [Act.put, List.setIfInBounds_toArray, List.set_cons_zero, List.set_cons_succ, i64_w, i32_w]
            rfl
          refine take_ (i := 6) (N := some 41) (v := ?_) (a' := ?_) #[true, true, true, true, true, true, true, false, false, false] rfl rfl (take_ofW HT_.out HW_.out (by kernel_rfl)) (fun _ _ _ h => h) (Or.inl ⟨by rfl, ?_⟩) hHeld ?_ ?_
          rotate_left
          · rintro w' ⟨s0, s1⟩
            go_simp
            with_reducible rfl
          rotate_left
          · simp only [Act.put, List.setIfInBounds_toArray, List.set_cons_zero, List.set_cons_succ, i64_w, i32_w]
            rfl
          refine pure_ (i := 7) (N := some 42) (v := ?_) (a' := ?_) #[true, true, true, true, true, true, true, true, false, false] rfl rfl (any_of HT_.out (by kernel_rfl)) (fun _ _ _ h => h) (Or.inl ⟨by rfl, ?_⟩) ?_ ?_
          rotate_left
          · intro w'
            go_simp
            with_reducible rfl
          rotate_left
          · simp only [Act.put, List.setIfInBounds_toArray, List.set_cons_zero, List.set_cons_succ, i64_w, i32_w]
            rfl
          refine pure_ (i := 8) (N := some 43) (v := ?_) (a' := ?_) #[true, true, true, true, true, true, true, true, true, false] rfl rfl (any_of HT_.out (by kernel_rfl)) (fun _ _ _ h => h) (Or.inl ⟨by rfl, ?_⟩) ?_ ?_
          rotate_left
          · intro w'
            go_simp
            with_reducible rfl
          rotate_left
          · simp only [Act.put, List.setIfInBounds_toArray, List.set_cons_zero, List.set_cons_succ, i64_w, i32_w]
            rfl
          refine last_ (i := 9) (N := none) #[true, true, true, true, true, true, true, true, true, true] rfl rfl (one_of HT_.out (by kernel_rfl)) (by decide) (fun K hK => ?_)
          refine skip_ (w1 := ?_) (by rfl) rfl ?_ ?_
          rotate_left
          · go_simp
            rfl
          refine hK.out _ _ ?_
          clear hK K
          refine done_ (done_of HT_.out (by kernel_rfl)) ?_
          go_wp2_with fail
          go_roundw
          case measure => simp [intOf]; omega
          case rel => exact ⟨q + 1, by omega, by go_num, ⟨HO2.out _ HO.out⟩, ⟨(heap_far HT2.out hgG)⟩, ⟨below_set (pw_below_drewN HB.out _) (by rw [← HG.out]; exact Nat.le_refl _)⟩⟩
        · obtain rfl : q = m := by omega
          have hqi : decide ((q : Int) < (q : Int)) = false := decide_eq_false (by omega)
          have HO3 := Aside0.mk (HO.out.same (g := tcol ρ l (k + 1)) (fun j hj => by rw [if_pos hj]))
          clear HO HT2
          go_wp2_with fail
          go_roundw
          case measure => simp [intOf]; have := HKn.out; omega
          case rel => exact ⟨k + 1, by have := HKn.out; omega, by go_num, HO3, HB⟩
    · obtain rfl : k = n := by omega
      go_wp2_with fail
      go_ret
      exact ⟨g, rfl, by rw [HG.out]; exact Nat.le_refl _, HO.out, HB.out⟩
end Go.Proofs.Ytjnicooboiijgaa.Rs
end

section
/-
  (*rs.Code).parity: both rows of parity.
-/
set_option linter.unusedVariables false
set_option linter.unusedSimpArgs false
namespace Go.Proofs.Ytjnicooboiijgaa.Rs
open Go.RowKit Go.Proofs.YtjnicooboiijgaaW.PrintWords Go.Proofs.YtjnicooboiijgaaW.PrintLast Go.Proofs.YtjnicooboiijgaaW.PrintMore Go.Proofs.Ytjnicooboiijgaa.PSg Go.Proofs.Ytjnicooboiijgaa.Gf
/-- The code of k, as New makes it, in a block of its own. -/
def pairsL (k : Nat) : List (List Int) := matrix 2 k fun i j => ((GfM.g (i * j) : Nat) : Int)
def CodeAt (W : World) (g k : Nat) : Prop := ∃ A c, W.heap[g]? = some (.cells #[.int .i64 k, .slice A 2 c] 96 (0, 0)) ∧ 2 ≤ c ∧ KR.C W A 2 (pairsL k)
theorem CodeAt.below {W W1 : World} {g k : Nat} (h : CodeAt W g k) (hb : Below W.heap.size W W1) : CodeAt W1 g k := by
  obtain ⟨A, c, h1, h2, h3⟩ := h
  exact ⟨A, c, (hb.block g (heap_lt h1)).trans h1, h2, Kd.C_below h3 hb⟩
def NewQ (w : World) (k : Int) (e : Ending) (w' : World) : Prop := Below w.heap.size w w' ∧
    if 1 ≤ k ∧ k ≤ 32 then ∃ g, e = .returned (.tuple #[.pointer (some ⟨g, 0, none⟩), .int .i64 0]) ∧ w.heap.size ≤ g ∧ CodeAt w' g k.toNat else e = .returned (.tuple #[.pointer none, .int .i64 1])
theorem newQ_no {w : World} {k : Int} (h : ¬ (1 ≤ k ∧ k ≤ 32)) : NewQ w k (.returned (.tuple #[.pointer none, .int .i64 1])) w := ⟨Below.refl _ _, by rw [if_neg h]⟩
theorem newQ_yes {w w1 : World} {n : Nat} {v : Value} (h1 : 1 ≤ n) (h2 : n ≤ 32) (hb : Below w.heap.size w w1) (hb2 : w1.heap[w.heap.size]? = some (.cells #[.int .i64 n, .slice none 0 0] 96 (0, 0))) (hv : Kd.S KR 37 w1 (w.heap.size + 1) (fun _ => True) v (pairsL n)) :
    NewQ w n (.returned (.tuple #[.pointer (some ⟨w.heap.size, 0, none⟩), .int .i64 0])) (w1.setCell ⟨w.heap.size, 1, none⟩ v) := by
  refine ⟨below_set hb (Nat.le_refl _), ?_⟩
  rw [if_pos ⟨by omega, by omega⟩]
  refine ⟨_, rfl, Nat.le_refl _, ?_⟩
  have hR := Kd.S_R hv
  obtain ⟨A, c, rfl, hl, hC⟩ := Kd.R_reads hR
  have e2 : (pairsL n).length = 2 := by simp [pairsL, matrix]
  rw [e2] at hl hC ⊢
  refine ⟨A, c, ?_, hl, ?_⟩
  · have := blkset hb2 1 (.slice A 2 c)
    rw [this]
    rfl
  · have hR2 : Kd.R KR 37 (w1.setCell ⟨w.heap.size, 1, none⟩ (.slice A 2 c)) (w.heap.size + 1) (fun _ => True) (.slice A (pairsL n).length c) (pairsL n) := by
      rw [e2]
      exact Kd.R_set hR hb2 (by simp [KR, Kd.slice, Kd.int, Kd.scalar]) 1 _
    have := (Kd.R_reads' hR2).2.2
    rw [e2] at this
    exact this
set_option maxHeartbeats 8000000 in
set_option maxRecDepth 100000 in
theorem new10 (w : World) (k : Int) : Calls Try.prog 42 #[.int .i64 k] w (NewQ w k) := by
  go_enter Try.func42, Try.ntmps42
  by_cases h1 : 1 ≤ k
  · by_cases h2 : k ≤ 32
    · obtain ⟨n, rfl⟩ : ∃ n : Nat, k = n := ⟨k.toNat, by omega⟩
      have b1 : decide ((n : Int) < 1) = false := decide_eq_false (by omega)
      have b2 : decide ((32 : Int) < (n : Int)) = false := decide_eq_false (by omega)
      have HP := Aside0.mk (fun (W : World) => gf_Pairs.calls (n : Int) (pairsL n) 0 W (by unfold gf_Pairs.f; rw [if_neg (by omega), if_neg (by omega)]; rfl))
      go_wp2_with (go_at_call 51; refine Calls.mono (HP.out _) ?_; rintro e w1 ⟨v, rfl, hv, hb⟩; obtain ⟨A1, c1, rfl, _⟩ := Kd.S_reads hv; have hblk : w1.heap[w.heap.size]? = some (.cells #[.int .i64 (n : Int), .slice none 0 0] 96 (0, 0)) := (hb.block w.heap.size (by simp)).trans (heap_alloc_last _ _); have hcell : w1.cell? ⟨w.heap.size, 1, none⟩ = some (.slice none 0 0) := (by rw [cell_of_row w1 w.heap.size 1 _ 96 (0, 0) hblk]; rfl); have hfr : w1.frozen? ⟨w.heap.size, 1, none⟩ = false := frozen_blk hblk; have HV := Aside0.mk (newQ_yes (by omega) (by omega) (below_then (below_alloc (Below.refl _ _) _) (by simp) hb) hblk (by simpa using hv)); clear hv hb hblk)
      go_ret2
      exact HV.out
    · have b1 : decide (k < 1) = false := decide_eq_false (by omega)
      have b2 : decide (32 < k) = true := decide_eq_true (by omega)
      have HN := Aside0.mk (newQ_no (w := w) (k := k) (by omega))
      go_wp2_with fail
      go_ret2
      exact HN.out
  · have b1 : decide (k < 1) = true := decide_eq_true (by omega)
    have HN := Aside0.mk (newQ_no (w := w) (k := k) (by omega))
    go_wp2_with fail
    go_ret2
    exact HN.out
/-- The r-th row of parity. -/
def rho (r i : Nat) : Nat := GfM.g (r * i)
theorem row_pairs {k r : Nat} (hr : r < 2) : row (pairsL k) r = (List.range k).map fun j => ((rho r j : Nat) : Int) := by simp [row, pairsL, matrix, List.getD, hr, rho]
def TimesQ (w : World) (m : Nat) (f : Nat → Nat) (e : Ending) (w' : World) : Prop := ∃ g, e = .returned (.slice (some ⟨g, 0, none⟩) m m) ∧ w.heap.size ≤ g ∧ RowAt w' g m f ∧ Below w.heap.size w w'
/-- Two rows in a slice of their own. -/
structure PairAt (w W : World) (b g0 g1 m : Nat) (f0 f1 : Nat → Nat) : Prop where
  below : Below w.heap.size w W
  top : W.heap[b]? = some (.cells #[.slice (some ⟨g0, 0, none⟩) m m, .slice (some ⟨g1, 0, none⟩) m m] 37 (0, 0))
  row0 : RowAt W g0 m f0
  row1 : RowAt W g1 m f1
  ge : w.heap.size ≤ g0
  lt : g0 < g1
  lt2 : g1 < b
def ParQ (w : World) (k m : Nat) (l : List (List Int)) (e : Ending) (w' : World) : Prop := ∃ b g0 g1, e = .returned (.slice (some ⟨b, 0, none⟩) 2 2) ∧ PairAt w w' b g0 g1 m (tcol (rho 0) l k) (tcol (rho 1) l k)
theorem par_end {w w1 w2 w3 : World} {m g0 g1 : Nat} {f0 f1 : Nat → Nat} (h0 : Below w.heap.size w w1) (hg0 : w1.heap.size ≤ g0) (hr0 : RowAt w2 g0 m f0) (hb0 : Below w1.heap.size w1 w2) (hg1 : w2.heap.size ≤ g1) (hr1 : RowAt w3 g1 m f1) (hb1 : Below w2.heap.size w2 w3) :
    PairAt w (w3.alloc (.cells #[.slice (some ⟨g0, 0, none⟩) m m, .slice (some ⟨g1, 0, none⟩) m m] 37)) w3.heap.size g0 g1 m f0 f1 where
  below := below_alloc (below_then (below_then h0 h0.size hb0) (below_then h0 h0.size hb0).size hb1) _
  top := heap_alloc_last _ _
  row0 := blkalloc ((hb1.block g0 (heap_lt hr0)).trans hr0) _
  row1 := blkalloc hr1 _
  ge := by have := h0.size; omega
  lt := by have := heap_lt hr0; omega
  lt2 := heap_lt hr1
def parity26.T1 : Bool × List (List Nat × List Nat) := (true, [([], []), ([0], [0]), ([1], [1]), ([2], [2]), ([3], [3]), ([4], [4]), ([], []), ([5, 6], [5, 6]), ([], []), ([8], [8]), ([9], [9]), ([10], [10]), ([11], [11]), ([12], [12]), ([], []), ([13, 14, 7], [13, 14]), ([7, 15], [7, 15]), ([16, 15, 0, 1, 2, 3, 4, 5, 6, 7, 8, 9, 10, 11, 12, 13, 14, 15, 16], [16])])
def parity26.B1 : List Nat := [0, 1, 3, 7, 15, 31, 0, 127, 0, 256, 768, 1792, 3840, 7936, 0, 32767, 65535, 131071]
theorem parity26.tab1 : rtab .any (opsOf Try.f57 1) = parity26.T1 := by kernel_rfl
theorem parity26.bits1 : waitsOk parity26.T1.2 parity26.B1 = true := by kernel_rfl
set_option maxHeartbeats 8000000 in
set_option maxRecDepth 100000 in
theorem parity26 (w : World) (g k : Nat) (hc : CodeAt w g k) (hk : 1 ≤ k) (hk2 : k ≤ 32) (B : Option Addr) (d : Nat) (l : List (List Int)) (hL : KR.C w B k l) (hl : l.length = k) (m : Nat) (hm9 : m ≤ 1000000) (hok : okB l = true) (hm : ∀ i, i < k → (row l i).length = m) :
    Calls Try.prog 57 #[.pointer (some ⟨g, 0, none⟩), .slice B k d] w (ParQ w k m l) := by
  obtain ⟨A, c, hg, hc2, hP⟩ := hc
  obtain ⟨ad, A0, c0, eA, hx0, hl0, hi0⟩ := rows_at hP (i := 0) (by omega)
  obtain ⟨ad', A1, c1, eA', hx1, hl1, hi1⟩ := rows_at hP (i := 1) (by omega)
  subst eA
  obtain rfl : ad = ad' := by injection eA'
  have e0 : (row (pairsL k) 0).length = k := by rw [row_pairs (by omega)]; simp
  have e1 : (row (pairsL k) 1).length = k := by rw [row_pairs (by omega)]; simp
  have HT : ∀ (r : Nat) (hr : r < 2) (A0 : Option Addr) (c0 : Nat) (hi0 : KB.C w A0 (row (pairsL k) r).length (row (pairsL k) r)) (e0 : (row (pairsL k) r).length = k), Aside0 (∀ W, Below w.heap.size w W → Calls Try.prog 71 #[.slice A0 k c0, .slice B k d] W (TimesQ W m (tcol (rho r) l k))) := fun r hr A0 c0 hi0 e0 => ⟨fun W hW => by
    have := times32 W A0 c0 (row (pairsL k) r) (Kd.C_below hi0 hW) (rho r) (fun i => GfM.g_lt _) (fun i hi => by rw [row_pairs hr] at hi ⊢; simp at hi; simp [List.getD, hi]) B d l (by rw [hl]; exact Kd.C_below hL hW) k m hl (by omega) (by omega) (by omega) hm9 hok hm
    rw [e0] at this
    exact this⟩
  have HT0 := HT 0 (by omega) A0 c0 hi0 e0
  have HT1 := HT 1 (by omega) A1 c1 hi1 e1
  rw [e0] at hx0
  rw [e1] at hx1
  have cg : w.cell? ⟨g, 1, none⟩ = some (.slice (some ad) 2 c) := by rw [cell_of_row w g 1 _ 96 (0, 0) hg]; rfl
  clear HT hi0 hi1 e0 e1 hl0 hl1 eA' hL hok hm hP hg hl
  rw [show ad.add 0 = ad by simp [Addr.add]] at hx0
  rw [show ad.add 1 = ⟨ad.block, ad.off + 1, none⟩ by simp [Addr.add]] at hx1
  go_enter Try.func57, Try.ntmps57
  go_wp2_with fail
  refine start_ (n := 18) (S := fun w' => w'.cell? ⟨g, 1, none⟩ = some (.slice (some ad) 2 c) ∧ w'.cell? ad = some (.slice A0 k c0) ∧ w'.cell? ⟨ad.block, ad.off + 1, none⟩ = some (.slice A1 k c1)) (ds := []) #[false, false, false, false, false, false, false, false, false, false, false, false, false, false, false, false, false, false] (by kernel_rfl) rfl rfl ⟨cg, hx0, hx1⟩ (fun hHeld => ?_)
  refine with_tabW parity26.tab1 parity26.bits1 (fun HT_ HW_ => ?_)
  refine pure_ (i := 0) (N := some 5) (v := ?_) (a' := ?_) #[true, false, false, false, false, false, false, false, false, false, false, false, false, false, false, false, false, false] rfl rfl (any_of HT_.out (by kernel_rfl)) (fun _ _ _ h => h) (Or.inl ⟨by rfl, ?_⟩) ?_ ?_
  rotate_left
  · intro w'
    go_simp
    with_reducible rfl
  rotate_left
  · simp only [Act.put, List.setIfInBounds_toArray, List.set_cons_zero, List.set_cons_succ, i64_w, i32_w]
    rfl
  refine pure_ (i := 1) (N := some 6) (v := ?_) (a' := ?_) #[true, true, false, false, false, false, false, false, false, false, false, false, false, false, false, false, false, false] rfl rfl (any_of HT_.out (by kernel_rfl)) (fun _ _ _ h => h) (Or.inl ⟨by rfl, ?_⟩) ?_ ?_
  rotate_left
  · intro w'
    go_simp
    with_reducible rfl
  rotate_left
  · simp only [Act.put, List.setIfInBounds_toArray, List.set_cons_zero, List.set_cons_succ, i64_w, i32_w]
    rfl
  refine pure_ (i := 2) (N := some 7) (v := ?_) (a' := ?_) #[true, true, true, false, false, false, false, false, false, false, false, false, false, false, false, false, false, false] rfl rfl (any_of HT_.out (by kernel_rfl)) (fun _ _ _ h => h) (Or.inl ⟨by rfl, ?_⟩) ?_ ?_
  rotate_left
  · intro w'
    go_simp
    with_reducible rfl
  rotate_left
  · simp only [Act.put, List.setIfInBounds_toArray, List.set_cons_zero, List.set_cons_succ, i64_w, i32_w]
    rfl
  refine pure_ (i := 6) (N := some 11) (v := ?_) (a' := ?_) #[true, true, true, false, false, false, true, false, false, false, false, false, false, false, false, false, false, false] rfl rfl (any_of HT_.out (by kernel_rfl)) (fun _ _ _ h => h) (Or.inl ⟨by rfl, ?_⟩) ?_ ?_
  rotate_left
  · intro w'
    go_simp
    with_reducible rfl
  rotate_left
  · simp only [Act.put, List.setIfInBounds_toArray, List.set_cons_zero, List.set_cons_succ, i64_w, i32_w]
    rfl
  refine pure_ (i := 8) (N := some 13) (v := ?_) (a' := ?_) #[true, true, true, false, false, false, true, false, true, false, false, false, false, false, false, false, false, false] rfl rfl (any_of HT_.out (by kernel_rfl)) (fun _ _ _ h => h) (Or.inl ⟨by rfl, ?_⟩) ?_ ?_
  rotate_left
  · intro w'
    go_simp
    with_reducible rfl
  rotate_left
  · simp only [Act.put, List.setIfInBounds_toArray, List.set_cons_zero, List.set_cons_succ, i64_w, i32_w]
    rfl
  refine pure_ (i := 9) (N := some 14) (v := ?_) (a' := ?_) #[true, true, true, false, false, false, true, false, true, true, false, false, false, false, false, false, false, false] rfl rfl (any_of HT_.out (by kernel_rfl)) (fun _ _ _ h => h) (Or.inl ⟨by rfl, ?_⟩) ?_ ?_
  rotate_left
  · intro w'
    go_simp
    with_reducible rfl
  rotate_left
  · simp only [Act.put, List.setIfInBounds_toArray, List.set_cons_zero, List.set_cons_succ, i64_w, i32_w]
    rfl
  refine pure_ (i := 10) (N := some 15) (v := ?_) (a' := ?_) #[true, true, true, false, false, false, true, false, true, true, true, false, false, false, false, false, false, false] rfl rfl (any_of HT_.out (by kernel_rfl)) (fun _ _ _ h => h) (Or.inl ⟨by rfl, ?_⟩) ?_ ?_
  rotate_left
  · intro w'
    go_simp
    with_reducible rfl
  rotate_left
  · simp only [Act.put, List.setIfInBounds_toArray, List.set_cons_zero, List.set_cons_succ, i64_w, i32_w]
    rfl
  refine pure_ (i := 14) (N := some 19) (v := ?_) (a' := ?_) #[true, true, true, false, false, false, true, false, true, true, true, false, false, false, true, false, false, false] rfl rfl (any_of HT_.out (by kernel_rfl)) (fun _ _ _ h => h) (Or.inl ⟨by rfl, ?_⟩) ?_ ?_
  rotate_left
  · intro w'
    go_simp
    with_reducible rfl
  rotate_left
  · simp only [Act.put, List.setIfInBounds_toArray, List.set_cons_zero, List.set_cons_succ, i64_w, i32_w]
    rfl
  refine take_ (i := 3) (N := some 8) (v := ?_) (a' := ?_) #[true, true, true, true, false, false, true, false, true, true, true, false, false, false, true, false, false, false] rfl rfl (take_ofW HT_.out HW_.out (by kernel_rfl)) (fun _ _ _ h => h) (Or.inl ⟨by rfl, ?_⟩) hHeld ?_ ?_
  rotate_left
  · rintro w' ⟨s0, s1, s2⟩
    go_simp
    with_reducible rfl
  rotate_left
  · simp only [Act.put, List.setIfInBounds_toArray, List.set_cons_zero, List.set_cons_succ, i64_w, i32_w]
    rfl
  refine pure_ (i := 4) (N := some 9) (v := ?_) (a' := ?_) #[true, true, true, true, true, false, true, false, true, true, true, false, false, false, true, false, false, false] rfl rfl (any_of HT_.out (by kernel_rfl)) (fun _ _ _ h => h) (Or.inl ⟨by rfl, ?_⟩) ?_ ?_
  rotate_left
  · intro w'
    go_simp
    with_reducible rfl
  rotate_left
  · simp only [Act.put, List.setIfInBounds_toArray, List.set_cons_zero, List.set_cons_succ, i64_w, i32_w]
    rfl
  refine take_ (i := 5) (N := some 10) (v := ?_) (a' := ?_) #[true, true, true, true, true, true, true, false, true, true, true, false, false, false, true, false, false, false] rfl rfl (take_ofW HT_.out HW_.out (by kernel_rfl)) (fun _ _ _ h => h) (Or.inl ⟨by rfl, ?_⟩) hHeld ?_ ?_
  rotate_left
  · rintro w' ⟨s0, s1, s2⟩
    go_simp
    with_reducible rfl
  rotate_left
  · simp only [Act.put, List.setIfInBounds_toArray, List.set_cons_zero, List.set_cons_succ, i64_w, i32_w]
    rfl
  refine take_ (i := 11) (N := some 16) (v := ?_) (a' := ?_) #[true, true, true, true, true, true, true, false, true, true, true, true, false, false, true, false, false, false] rfl rfl (take_ofW HT_.out HW_.out (by kernel_rfl)) (fun _ _ _ h => h) (Or.inl ⟨by rfl, ?_⟩) hHeld ?_ ?_
  rotate_left
  · rintro w' ⟨s0, s1, s2⟩
    go_simp
    with_reducible rfl
  rotate_left
  · simp only [Act.put, List.setIfInBounds_toArray, List.set_cons_zero, List.set_cons_succ, i64_w, i32_w]
    rfl
  refine pure_ (i := 12) (N := some 17) (v := ?_) (a' := ?_) #[true, true, true, true, true, true, true, false, true, true, true, true, true, false, true, false, false, false] rfl rfl (any_of HT_.out (by kernel_rfl)) (fun _ _ _ h => h) (Or.inl ⟨by rfl, ?_⟩) ?_ ?_
  rotate_left
  · intro w'
    go_simp
    with_reducible rfl
  rotate_left
  · simp only [Act.put, List.setIfInBounds_toArray, List.set_cons_zero, List.set_cons_succ, i64_w, i32_w]
    rfl
  refine take_ (i := 13) (N := some 18) (v := ?_) (a' := ?_) #[true, true, true, true, true, true, true, false, true, true, true, true, true, true, true, false, false, false] rfl rfl (take_ofW HT_.out HW_.out (by kernel_rfl)) (fun _ _ _ h => h) (Or.inl ⟨by rfl, ?_⟩) hHeld ?_ ?_
  rotate_left
  · rintro w' ⟨s0, s1, s2⟩
    go_simp
    with_reducible rfl
  rotate_left
  · simp only [Act.put, List.setIfInBounds_toArray, List.set_cons_zero, List.set_cons_succ, i64_w, i32_w]
    rfl
  refine one_ (i := 7) (N := some 12) #[true, true, true, true, true, true, true, true, true, true, true, true, true, true, true, false, false, false] rfl rfl (one_of HT_.out (by kernel_rfl)) (by decide) (fun K hK => ?_)
  refine goes_ Try.func71 (by kernel_rfl) rfl #[.slice A0 k c0, .slice B k d] (by rfl) rfl rfl (by simp only [List.map_toArray, List.map_cons, List.map_nil]; rfl) ?_
  refine Calls.mono (HT0.out _ (below_drew (Below.refl _ _))) ?_
  rintro e w7 ⟨g0, rfl, hg0, hr0, hb0⟩
  refine ⟨_, rfl, ?_⟩
  refine hK.out _ _ ⟨pw_cell_below hb0 hHeld.1, pw_cell_below hb0 hHeld.2.1, pw_cell_below hb0 hHeld.2.2⟩ (fun hHeld => ?_)
  clear hK K
  refine norm_ (a' := ?_) ?_ ?_
  rotate_left
  · show Act.put _ (some 12) _ = _
    simp only [Act.put, List.setIfInBounds_toArray, List.set_cons_zero, List.set_cons_succ, i64_w, i32_w]
    rfl
  refine one_ (i := 15) (N := some 20) #[true, true, true, true, true, true, true, true, true, true, true, true, true, true, true, true, false, false] rfl rfl (one_of HT_.out (by kernel_rfl)) (by decide) (fun K hK => ?_)
  refine goes_ Try.func71 (by kernel_rfl) rfl #[.slice A1 k c1, .slice B k d] (by rfl) rfl rfl (by simp only [List.map_toArray, List.map_cons, List.map_nil]; rfl) ?_
  refine Calls.mono (HT1.out _ (below_then (below_drew (Below.refl _ _)) (by simp) hb0)) ?_
  rintro e w15 ⟨g1, rfl, hg1, hr1, hb1⟩
  refine ⟨_, rfl, ?_⟩
  refine hK.out _ _ ⟨pw_cell_below hb1 hHeld.1, pw_cell_below hb1 hHeld.2.1, pw_cell_below hb1 hHeld.2.2⟩ (fun hHeld => ?_)
  clear hK K
  refine norm_ (a' := ?_) ?_ ?_
  rotate_left
  · show Act.put _ (some 20) _ = _
    simp only [Act.put, List.setIfInBounds_toArray, List.set_cons_zero, List.set_cons_succ, i64_w, i32_w]
    rfl
  refine one_ (i := 16) (N := some 21) #[true, true, true, true, true, true, true, true, true, true, true, true, true, true, true, true, true, false] rfl rfl (one_of HT_.out (by kernel_rfl)) (by decide) (fun K hK => ?_)
  refine value_ (w1 := ?_) (v := ?_) (by rfl) rfl ?_ ?_
  rotate_left 2
  · go_simp
    constructor
    · rfl
    · rfl
  refine hK.out _ _ ⟨pw_cell_below (below1 _ _) hHeld.1, pw_cell_below (below1 _ _) hHeld.2.1, pw_cell_below (below1 _ _) hHeld.2.2⟩ (fun hHeld => ?_)
  clear hK K
  refine norm_ (a' := ?_) ?_ ?_
  rotate_left
  · show Act.put _ (some 21) _ = _
    simp only [Act.put, List.setIfInBounds_toArray, List.set_cons_zero, List.set_cons_succ, i64_w, i32_w]
    rfl
  refine pure_ (i := 17) (N := some 4) (v := ?_) (a' := ?_) #[true, true, true, true, true, true, true, true, true, true, true, true, true, true, true, true, true, true] rfl rfl (any_of HT_.out (by kernel_rfl)) (fun _ _ _ h => h) (Or.inl ⟨by rfl, ?_⟩) ?_ ?_
  rotate_left
  · intro w'
    go_simp
    with_reducible rfl
  rotate_left
  · simp only [Act.put, List.setIfInBounds_toArray, List.set_cons_zero, List.set_cons_succ, i64_w, i32_w]
    rfl
  refine done_ (done_of HT_.out (by kernel_rfl)) ?_
  go_wp2_with fail
  go_ret
  exact ⟨_, _, _, rfl, par_end (below_drew (Below.refl _ _)) hg0 hr0 hb0 hg1 hr1 hb1⟩
end Go.Proofs.Ytjnicooboiijgaa.Rs
end

section
/-
  rs.missing, (*rs.Code).Parity.
-/
set_option linter.unusedVariables false
set_option linter.unusedSimpArgs false
namespace Go.Proofs.Ytjnicooboiijgaa.Rs
open Go.RowKit Go.Proofs.YtjnicooboiijgaaW.PrintWords Go.Proofs.YtjnicooboiijgaaW.PrintLast Go.Proofs.YtjnicooboiijgaaW.PrintMore Go.Proofs.Ytjnicooboiijgaa.PSg Go.Proofs.Ytjnicooboiijgaa.Gf
/-- The numbers of the shards that are missing, from i on. -/
def missFrom (l : List (List Int)) (i d : Nat) : List Int := ((List.range' i d).filter fun (q : Nat) => decide ((row l q).length = 0)).map fun (q : Nat) => (q : Int)
def missL (l : List (List Int)) : List Int := missFrom l 0 l.length
theorem missFrom_succ (l : List (List Int)) (i d : Nat) : missFrom l i (d + 1) = (if (row l i).length = 0 then [(i : Int)] else []) ++ missFrom l (i + 1) d := by
  unfold missFrom
  rw [List.range'_succ, List.filter_cons]
  by_cases h : (row l i).length = 0
  · simp [h]
  · simp [h]
theorem missing_l0 (l : List (List Int)) (hl : l.length ≤ 100000000) : ∀ (d k i : Nat) (acc : List Int), d + i = l.length → d < k → acc.length ≤ i → rs_missing.l0 k acc l (l.length : Int) i = some (acc ++ missFrom l i d) := by
  intro d
  induction d with
  | zero =>
    intro k i acc hd hk ha
    obtain ⟨k, rfl⟩ : ∃ m, k = m + 1 := ⟨k - 1, by omega⟩
    simp only [rs_missing.l0]
    rw [if_neg (by omega)]
    simp [missFrom]
  | succ d ih =>
    intro k i acc hd hk ha
    obtain ⟨k, rfl⟩ : ∃ m, k = m + 1 := ⟨k - 1, by omega⟩
    simp only [rs_missing.l0]
    have e : rd_L1 l (i : Int) = row l i := by simp [rd_L1, row]
    have e2 : wrap64 ((i : Int) + 1) = ((i + 1 : Nat) : Int) := by unfold wrap64; omega
    rw [if_pos (by omega), if_pos (by omega), if_pos (by omega), e, e2, missFrom_succ]
    by_cases h : (row l i).length = 0
    · rw [if_pos (by omega), if_pos (by omega), if_pos h, ih k (i + 1) _ (by omega) (by omega) (by simp; omega)]
      simp
    · rw [if_neg (by omega), if_neg h, ih k (i + 1) _ (by omega) (by omega) (by omega)]
      simp
theorem missing24 (w : World) (A : Option Addr) (c : Nat) (l : List (List Int)) (hC : KR.C w A l.length l) (hc : l.length ≤ c) (hl : l.length ≤ 100000000) :
    Calls Try.prog 55 #[.slice A l.length c] w fun e w' => ∃ B d, e = .returned (.slice B (missL l).length d) ∧ Kd.R (Kd.int .i64) 3 w' w.heap.size (fun _ => True) (.slice B (missL l).length d) (missL l) ∧ Below w.heap.size w w' := by
  refine (rs_missing.calls (l.length + 1) A c l (missL l) w hC hc ?_).mono ?_
  · unfold rs_missing.f missL
    have := missing_l0 l hl l.length (l.length + 1) 0 [] (by omega) (by omega) (by simp)
    simpa using this
  · rintro e w' ⟨v, rfl, hR, hb⟩
    obtain ⟨B, d, rfl, _⟩ := Kd.R_reads hR
    exact ⟨B, d, rfl, hR, hb⟩
def ParityQ (w : World) (k m : Nat) (l : List (List Int)) (e : Ending) (w' : World) : Prop := ∃ b g0 g1, e = .returned (.tuple #[.slice (some ⟨b, 0, none⟩) 2 2, .int .i64 0]) ∧ PairAt w w' b g0 g1 m (tcol (rho 0) l k) (tcol (rho 1) l k)
def NoQ (w : World) (x : Int) (e : Ending) (w' : World) : Prop := e = .returned (.tuple #[.slice none 0 0, .int .i64 x]) ∧ Below w.heap.size w w'
/-- The world with the two results' variables. -/
def two (w : World) : World := (w.alloc (.cells #[.slice none 0 0] 51)).alloc (.cells #[.int .i64 0] 30)
theorem two_below (w : World) : Below w.heap.size w (two w) := below_alloc (below_alloc (Below.refl _ _) _) _
theorem two_at0 (w : World) : (two w).heap[w.heap.size]? = some (.cells #[.slice none 0 0] 51 (0, 0)) := blkalloc (heap_alloc_last _ _) _
theorem two_at1 (w : World) : (two w).heap[w.heap.size + 1]? = some (.cells #[.int .i64 0] 30 (0, 0)) := by
  have := heap_alloc_last (w.alloc (.cells #[.slice none 0 0] 51)) (.cells #[.int .i64 0] 30)
  rw [World.size_alloc] at this
  exact this
structure Two (w W : World) (v0 v1 : Value) : Prop where
  below : Below w.heap.size w W
  at0 : W.heap[w.heap.size]? = some (.cells #[v0] 51 (0, 0))
  at1 : W.heap[w.heap.size + 1]? = some (.cells #[v1] 30 (0, 0))
theorem Two.start (w : World) : Two w (two w) (.slice none 0 0) (.int .i64 0) := ⟨two_below w, two_at0 w, two_at1 w⟩
theorem Two.then_ {w W W1 : World} {v0 v1 : Value} (h : Two w W v0 v1) (hb : Below W.heap.size W W1) : Two w W1 v0 v1 := ⟨below_then h.below h.below.size hb, (hb.block _ (heap_lt h.at0)).trans h.at0, (hb.block _ (heap_lt h.at1)).trans h.at1⟩
theorem Two.set0 {w W : World} {v0 v1 : Value} (h : Two w W v0 v1) (u : Value) : Two w (W.setCell ⟨w.heap.size, 0, none⟩ u) u v1 := ⟨below_set h.below (Nat.le_refl _), blkset h.at0 0 u, blkfar h.at1 (p := ⟨w.heap.size, 0, none⟩) (Nat.succ_ne_self _) u⟩
theorem Two.set1 {w W : World} {v0 v1 : Value} (h : Two w W v0 v1) (u : Value) : Two w (W.setCell ⟨w.heap.size + 1, 0, none⟩ u) v0 u := ⟨below_set h.below (by omega), blkfar h.at0 (p := ⟨w.heap.size + 1, 0, none⟩) (by show _ ≠ _ + 1; omega) u, blkset h.at1 0 u⟩
theorem Two.c0 {w W : World} {v0 v1 : Value} (h : Two w W v0 v1) : W.cell? ⟨w.heap.size, 0, none⟩ = some v0 := by rw [cell_of_row W _ 0 _ 51 (0, 0) h.at0]; rfl
theorem Two.c1 {w W : World} {v0 v1 : Value} (h : Two w W v0 v1) : W.cell? ⟨w.heap.size + 1, 0, none⟩ = some v1 := by rw [cell_of_row W _ 0 _ 30 (0, 0) h.at1]; rfl
theorem Two.f0 {w W : World} {v0 v1 : Value} (h : Two w W v0 v1) : W.frozen? ⟨w.heap.size, 0, none⟩ = false := frozen_blk h.at0
theorem Two.f1 {w W : World} {v0 v1 : Value} (h : Two w W v0 v1) : W.frozen? ⟨w.heap.size + 1, 0, none⟩ = false := frozen_blk h.at1
theorem PairAt.two {w W W1 : World} {b g0 g1 m : Nat} {f0 f1 : Nat → Nat} {v0 v1 : Value} (hz : Two w W v0 v1) (h : PairAt W W1 b g0 g1 m f0 f1) (u0 u1 : Value) :
    PairAt w ((W1.setCell ⟨w.heap.size, 0, none⟩ u0).setCell ⟨w.heap.size + 1, 0, none⟩ u1) b g0 g1 m f0 f1 := by
  have h1 := heap_lt hz.at1
  have h2 := h.ge
  have h3 := h.lt
  have h4 := h.lt2
  exact ⟨(((hz.then_ h.below).set0 u0).set1 u1).below, blkfar (blkfar h.top (by show b ≠ w.heap.size; omega) _) (by show b ≠ w.heap.size + 1; omega) _,
    (h.row0.far (by show g0 ≠ w.heap.size; omega) _).far (by show g0 ≠ w.heap.size + 1; omega) _, (h.row1.far (by show g1 ≠ w.heap.size; omega) _).far (by show g1 ≠ w.heap.size + 1; omega) _, by omega, h3, h4⟩
set_option maxHeartbeats 8000000 in
set_option maxRecDepth 100000 in
theorem parity11_ok (w : World) (g k : Nat) (hc : CodeAt w g k) (hk : 1 ≤ k) (hk2 : k ≤ 32) (B : Option Addr) (d : Nat) (l : List (List Int)) (hL : KR.C w B k l) (hl : l.length = k) (hd : k ≤ d) (m : Nat) (hm9 : m ≤ 1000000) (hok : okB l = true) (hm : ∀ i, i < k → (row l i).length = m) (hs : sizesB 0 l = true) (hmiss : missL l = []) :
    Calls Try.prog 43 #[.pointer (some ⟨g, 0, none⟩), .slice B k d] w (ParityQ w k m l) := by
  have HC := Aside0.mk hc
  have HA := Aside0.mk (fun (W : World) (hW : Below w.heap.size w W) => (by have := alike23 W (k : Int) B d l (by rw [hl]; exact Kd.C_below hL hW) (by omega); rw [hl] at this; refine this.mono ?_; rintro e w' ⟨h, h2⟩; rw [if_pos ⟨by omega, hs⟩] at h; exact ⟨h, h2⟩ : Calls Try.prog 54 #[.int .i64 k, .slice B k d] W fun e w' => e = .returned (.tuple #[]) ∧ w' = W))
  have HM := Aside0.mk (fun (W : World) (hW : Below w.heap.size w W) => (by have := missing24 W B d l (by rw [hl]; exact Kd.C_below hL hW) (by omega) (by omega); rw [hl, hmiss] at this; refine this.mono ?_; rintro e w' ⟨B', d', rfl, h, h2⟩; exact ⟨B', d', rfl, h2⟩ : Calls Try.prog 55 #[.slice B k d] W fun e w' => ∃ B' d', e = .returned (.slice B' 0 d') ∧ Below W.heap.size W w'))
  have HP := Aside0.mk (fun (W : World) (hW : Below w.heap.size w W) => parity26 W g k (hc.below hW) hk hk2 B d l (Kd.C_below hL hW) hl m hm9 hok hm)
  obtain ⟨Ac, cc, hg, hcc2, hCC⟩ := hc
  have cg : w.cell? ⟨g, 0, none⟩ = some (.int .i64 k) := by rw [cell_of_row w g 0 _ 96 (0, 0) hg]; rfl
  have hgl : g < w.heap.size := heap_lt hg
  have hZ := Two.start w
  replace cg := pw_cell_below hZ.below cg
  have HZ := Aside0.mk hZ
  unfold two at HZ cg
  clear hL hg hCC hZ hm hok
  have hmf : ∀ (fn : Fn) (first cap : Array Value) (w : World), (Instr.makeFunc fn first cap).run Try.prog w = .ok (.func fn first cap) w := fun _ _ _ _ => rfl
  go_enter_defers Try.func43, Try.ntmps43
  go_wp2_with (first
    | (go_at_call 54; refine Calls.mono (HA.out _ HZ.out.below) ?_; rintro e w1 ⟨rfl, rfl⟩)
    | (go_at_call 55; refine Calls.mono (HM.out _ HZ.out.below) ?_; rintro e w2 ⟨B', d', rfl, hb2⟩; have HZ2 := Aside0.mk (HZ.out.then_ hb2); clear cg HZ)
    | (go_at_call 57; refine Calls.mono (HP.out _ HZ2.out.below) ?_; rintro e w3 ⟨b, g0, g1, rfl, hpa⟩
       have HZ3 := Aside0.mk (HZ2.out.then_ hpa.below)
       have HPA := Aside0.mk (hpa.two HZ2.out (.slice (some ⟨b, 0, none⟩) 2 2) (.int .i64 0))
       have HZ4 := Aside0.mk (HZ3.out.set0 (.slice (some ⟨b, 0, none⟩) 2 2))
       have HZ5 := Aside0.mk (HZ4.out.set1 (.int .i64 0))
       have c0 := HZ3.out.c0
       have c1 := HZ4.out.c1
       have f0 := HZ3.out.f0
       have f1 := HZ3.out.f1
       clear hpa HZ2))
  refine leaves_cons (f := 52) (args := #[.pointer (some ⟨w.heap.size + 1, 0, none⟩), .func (.func 53) #[] #[.pointer (some ⟨w.heap.size, 0, none⟩)]]) (by simp) (by simp [go_sem]) ?_
  refine (told_idle ⟨w.heap.size + 1, 0, none⟩ _ _).mono ?_
  rintro e u' w'' ⟨rfl, rfl, rfl⟩
  have r0 := HZ5.out.c0
  have r1 := HZ5.out.c1
  simp [Leaves, settle, results, Try.results43, go_sem, r0, r1]
  exact ⟨_, _, _, rfl, HPA.out⟩
/-- The door of a panic that was given: the error is told. -/
theorem Two.told {w W : World} {v0 v1 : Value} (h : Two w W v0 v1) (x : Int) : Two w ((W.setCell ⟨w.heap.size + 1, 0, none⟩ (.int .i64 x)).setCell ⟨w.heap.size, 0, none⟩ (.slice none 0 0)) (.slice none 0 0) (.int .i64 x) := (h.set1 _).set0 _
end Go.Proofs.Ytjnicooboiijgaa.Rs
end
