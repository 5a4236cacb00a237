/-
  slices.Equal, slices.EqualFunc over rows, (*rs.Code).Check.
-/
import Derived.Test.YtjolnjckgoilpaaRsLin
import Derived.Test.YtjolnjckgoilpaaPRay6
set_option linter.unusedVariables false
set_option linter.unusedSimpArgs false
namespace Go.Proofs.Ytjolnjckgoilpaa.Rs
open Go.RowKit Go.Proofs.YtjolnjckgoilpaaW.PrintWords Go.Proofs.YtjolnjckgoilpaaW.PrintLast Go.Proofs.YtjolnjckgoilpaaW.PrintMore Go.Proofs.Ytjolnjckgoilpaa.PRa Go.Proofs.Ytjolnjckgoilpaa.Gf
theorem equal_l0 (x y : List Int) (hxy : x.length = y.length) (hx : x.length ≤ 100000000) : ∀ (d k i : Nat), d + i = x.length → d < k → slices_Equal_byte_byte.l0 k x y (x.length : Int) i = some (decide (x.drop i = y.drop i)) := by
  intro d
  induction d with
  | zero =>
    intro k i hd hk
    obtain ⟨k, rfl⟩ : ∃ m, k = m + 1 := ⟨k - 1, by omega⟩
    simp only [slices_Equal_byte_byte.l0]
    rw [if_neg (by omega), List.drop_eq_nil_of_le (by omega), List.drop_eq_nil_of_le (by omega)]
    simp
  | succ d ih =>
    intro k i hd hk
    obtain ⟨k, rfl⟩ : ∃ m, k = m + 1 := ⟨k - 1, by omega⟩
    simp only [slices_Equal_byte_byte.l0]
    have e2 : wrap64 ((i : Int) + 1) = ((i + 1 : Nat) : Int) := by unfold wrap64; omega
    rw [if_pos (by omega), if_pos (by omega), if_pos (by omega), if_pos (by omega), e2]
    have hx1 : i < x.length := by omega
    have hy1 : i < y.length := by omega
    have e3 : rd x (i : Int) = x[i] := by simp [rd, rdOf, List.getD, hx1]
    have e4 : rd y (i : Int) = y[i] := by simp [rd, rdOf, List.getD, hy1]
    rw [e3, e4, List.drop_eq_getElem_cons hx1, List.drop_eq_getElem_cons hy1]
    by_cases h : x[i] = y[i]
    · rw [if_pos h, ih k (i + 1) (by omega) (by omega)]
      congr 1
      exact decide_eq_decide.mpr ⟨fun e => by rw [h, e], fun e => (List.cons.inj e).2⟩
    · rw [if_neg h]
      congr 1
      exact (decide_eq_false fun e => h (List.cons.inj e).1).symm
theorem equal41 (w : World) (A : Option Addr) (c : Nat) (x : List Int) (B : Option Addr) (d : Nat) (y : List Int) (hx : KB.C w A x.length x) (hc : x.length ≤ c) (hy : KB.C w B y.length y) (hd : y.length ≤ d) (h9 : x.length ≤ 100000000) :
    Calls Try.prog 41 #[.slice A x.length c, .slice B y.length d] w fun e w' => e = .returned (.bool (decide (x = y))) ∧ Drawn0 w w' := by
  refine slices_Equal_byte_byte.calls (x.length + 1) A c x B d y (decide (x = y)) w hx hc hy hd ?_
  unfold slices_Equal_byte_byte.f
  by_cases h : x.length = y.length
  · rw [if_pos (by omega)]
    have := equal_l0 x y h h9 x.length (x.length + 1) 0 (by omega) (by omega)
    simpa using this
  · rw [if_neg (by omega)]
    have : ¬ x = y := fun e => h (by rw [e])
    simp [this]
theorem enter41 (args : Array Value) (w : World) : (callFunc 41 args).run Try.prog w = .ok (.enter 41 args) w := Go.Proofs.enters_of Try.func41 (by kernel_rfl) rfl args w
theorem take_step {x y : List (List Int)} {j n : Nat} (hx : x.length = n) (hy : y.length = n) (hj : j < n) (h : x.take j = y.take j) (e : row x j = row y j) : x.take (j + 1) = y.take (j + 1) := by
  have h1 : j < x.length := by omega
  have h2 : j < y.length := by omega
  rw [List.take_succ_eq_append_getElem h1, List.take_succ_eq_append_getElem h2, h]
  have e1 : x[j] = row x j := by simp [row, List.getD, h1]
  have e2 : y[j] = row y j := by simp [row, List.getD, h2]
  rw [e1, e2, e]
set_option maxHeartbeats 8000000 in
set_option maxRecDepth 100000 in
theorem equalf40 (w : World) (A : Option Addr) (c : Nat) (x : List (List Int)) (B : Option Addr) (d : Nat) (y : List (List Int)) (n : Nat) (hx : KR.C w A n x) (hy : KR.C w B n y) (hn : n ≤ 100000000) (hr : ∀ i, (row x i).length ≤ 100000000) :
    Calls Try.prog 40 #[.slice A n c, .slice B n d, .func (.func 41) #[] #[]] w fun e w' => e = .returned (.bool (decide (x = y))) ∧ Below w.heap.size w w' := by
  have hxl : x.length = n := Kd.C_len hx
  have hyl : y.length = n := Kd.C_len hy
  have HXL := Aside0.mk hxl
  have HYL := Aside0.mk hyl
  have HX := Aside0.mk hx
  have HY := Aside0.mk hy
  have HR := Aside0.mk hr
  have he := enter41
  clear hx hy hxl hyl hr
  go_enter Try.func40, Try.ntmps40
  go_wp2_with fail
  go_loopw [17] (fun i W => ∃ j : Nat, j ≤ n ∧ i = .int .i64 j ∧ Aside0 (x.take j = y.take j) ∧ Aside0 (Below w.heap.size w W)) (fun i _ => n - (intOf i).toNat)
  case atStart => exact ⟨0, Nat.zero_le _, rfl, ⟨rfl⟩, ⟨Below.refl _ _⟩⟩
  case round =>
    obtain ⟨j, hj, rfl, HE, HB⟩ := hrel
    by_cases hjn : j < n
    · clear hj
      obtain ⟨ad, A1, c1, eA, xa, la, ia⟩ := rows_at HX.out (i := j) hjn
      obtain ⟨bd, B1, d1, eB, xb, lb, ib⟩ := rows_at HY.out (i := j) hjn
      subst eA
      subst eB
      replace xa := pw_cell_below HB.out xa
      replace xb := pw_cell_below HB.out xb
      have HQ := Aside0.mk (fun (W : World) (hW : Below w.heap.size w W) => equal41 W A1 c1 (row x j) B1 d1 (row y j) (Kd.C_below ia hW) la (Kd.C_below ib hW) lb (HR.out j))
      have HS := Aside0.mk (fun e => take_step HXL.out HYL.out hjn HE.out e)
      have HN := Aside0.mk (fun (e : ¬ row x j = row y j) => (fun h => e (by rw [h]) : ¬ x = y))
      obtain ⟨u, hu⟩ : ∃ u, row x j = u := ⟨_, rfl⟩
      obtain ⟨v, hv⟩ : ∃ v, row y j = v := ⟨_, rfl⟩
      rw [hu, hv] at HQ HS HN
      rw [hu] at xa
      rw [hv] at xb
      clear ia ib la lb hu hv HE
      have hji : decide ((j : Int) < (n : Int)) = true := decide_eq_true (by omega)
      have hj0 : (0 : Int) ≤ (j : Int) := by omega
      have hj1 : (j : Int) < (n : Int) := by omega
      by_cases huv : u = v
      · have HE := Aside0.mk (HS.out huv)
        have HQ2 := Aside0.mk (fun (W : World) (hW : Below w.heap.size w W) => (by have := HQ.out W hW; rw [decide_eq_true huv] at this; exact this : Calls Try.prog 41 #[.slice A1 u.length c1, .slice B1 v.length d1] W fun e w' => e = .returned (.bool true) ∧ Drawn0 W w'))
        clear HQ HS HN huv
        generalize u.length = lu at *
        generalize v.length = lv at *
        go_wp2_with (go_at_call 41; refine Calls.mono (HQ2.out _ HB.out) ?_; rintro e w1 ⟨rfl, hd⟩; have HB1 := Aside0.mk (below_then HB.out HB.out.size hd.below); clear hd)
        go_roundw
        case measure => simp [intOf]; omega
        case rel => exact ⟨j + 1, by omega, by go_num, HE, HB1⟩
      · have hne := HN.out huv
        have HNE := Aside0.mk (decide_eq_false hne)
        have HQ2 := Aside0.mk (fun (W : World) (hW : Below w.heap.size w W) => (by have := HQ.out W hW; rw [decide_eq_false huv] at this; exact this : Calls Try.prog 41 #[.slice A1 u.length c1, .slice B1 v.length d1] W fun e w' => e = .returned (.bool false) ∧ Drawn0 W w'))
        clear HQ HS HN huv hne
        generalize u.length = lu at *
        generalize v.length = lv at *
        go_wp2_with (go_at_call 41; refine Calls.mono (HQ2.out _ HB.out) ?_; rintro e w1 ⟨rfl, hd⟩; have HB1 := Aside0.mk (below_then HB.out HB.out.size hd.below); clear hd)
        go_ret
        exact ⟨congrArg (fun b => Ending.returned (Value.bool b)) HNE.out.symm, HB1.out⟩
    · obtain rfl : j = n := by omega
      have hji : decide ((j : Int) < (j : Int)) = false := decide_eq_false (by omega)
      have HEQ := Aside0.mk (decide_eq_true (show x = y by have := HE.out; rwa [List.take_of_length_le (by rw [HXL.out]; exact Nat.le_refl _), List.take_of_length_le (by rw [HYL.out]; exact Nat.le_refl _)] at this))
      go_wp2_with fail
      go_ret
      exact ⟨congrArg (fun b => Ending.returned (Value.bool b)) HEQ.out.symm, HB.out⟩
/-- The world with the two results' variables. -/
def twoC (w : World) : World := (w.alloc (.cells #[.bool false] 4)).alloc (.cells #[.int .i64 0] 27)
theorem twoC_below (w : World) : Below w.heap.size w (twoC w) := below_alloc (below_alloc (Below.refl _ _) _) _
theorem twoC_size (w : World) : (twoC w).heap.size = w.heap.size + 2 := by simp [twoC]
theorem twoC_at0 (w : World) : (twoC w).heap[w.heap.size]? = some (.cells #[.bool false] 4 (0, 0)) := blkalloc (heap_alloc_last _ _) _
theorem twoC_at1 (w : World) : (twoC w).heap[w.heap.size + 1]? = some (.cells #[.int .i64 0] 27 (0, 0)) := by
  have := heap_alloc_last (w.alloc (.cells #[.bool false] 4)) (.cells #[.int .i64 0] 27)
  rw [World.size_alloc] at this
  exact this
structure TwoC (w W : World) (v0 v1 : Value) : Prop where
  below : Below w.heap.size w W
  at0 : W.heap[w.heap.size]? = some (.cells #[v0] 4 (0, 0))
  at1 : W.heap[w.heap.size + 1]? = some (.cells #[v1] 27 (0, 0))
theorem TwoC.start (w : World) : TwoC w (twoC w) (.bool false) (.int .i64 0) := ⟨twoC_below w, twoC_at0 w, twoC_at1 w⟩
theorem TwoC.then_ {w W W1 : World} {v0 v1 : Value} (h : TwoC w W v0 v1) (hb : Below W.heap.size W W1) : TwoC w W1 v0 v1 := ⟨below_then h.below h.below.size hb, (hb.block _ (heap_lt h.at0)).trans h.at0, (hb.block _ (heap_lt h.at1)).trans h.at1⟩
theorem TwoC.set0 {w W : World} {v0 v1 : Value} (h : TwoC w W v0 v1) (u : Value) : TwoC w (W.setCell ⟨w.heap.size, 0, none⟩ u) u v1 := ⟨below_set h.below (Nat.le_refl _), blkset h.at0 0 u, blkfar h.at1 (p := ⟨w.heap.size, 0, none⟩) (Nat.succ_ne_self _) u⟩
theorem TwoC.set1 {w W : World} {v0 v1 : Value} (h : TwoC w W v0 v1) (u : Value) : TwoC w (W.setCell ⟨w.heap.size + 1, 0, none⟩ u) v0 u := ⟨below_set h.below (by omega), blkfar h.at0 (p := ⟨w.heap.size + 1, 0, none⟩) (by show _ ≠ _ + 1; omega) u, blkset h.at1 0 u⟩
theorem TwoC.c0 {w W : World} {v0 v1 : Value} (h : TwoC w W v0 v1) : W.cell? ⟨w.heap.size, 0, none⟩ = some v0 := by rw [cell_of_row W _ 0 _ 4 (0, 0) h.at0]; rfl
theorem TwoC.c1 {w W : World} {v0 v1 : Value} (h : TwoC w W v0 v1) : W.cell? ⟨w.heap.size + 1, 0, none⟩ = some v1 := by rw [cell_of_row W _ 0 _ 27 (0, 0) h.at1]; rfl
theorem TwoC.f0 {w W : World} {v0 v1 : Value} (h : TwoC w W v0 v1) : W.frozen? ⟨w.heap.size, 0, none⟩ = false := frozen_blk h.at0
theorem TwoC.f1 {w W : World} {v0 v1 : Value} (h : TwoC w W v0 v1) : W.frozen? ⟨w.heap.size + 1, 0, none⟩ = false := frozen_blk h.at1
end Go.Proofs.Ytjolnjckgoilpaa.Rs
