/- Several texts of this session laid together: RsTold, RsProd. -/
import Derived.Test.YtjolnjckgoilpaaRsPairs
import Derived.Defers
import Derived.Recover
import Derived.WalkLawsBesides
import Derived.Deep.WholeRow
import Derived.Deep.MidRow
import Derived.Laws.CopyRow
section
/-
  rs.give, rs.told and the closures that it is given.
-/
set_option linter.unusedVariables false
set_option linter.unusedSimpArgs false
namespace Go.Proofs.Ytjolnjckgoilpaa.Rs
open Go.RowKit Go.Proofs.YtjolnjckgoilpaaW.PrintWords Go.Proofs.YtjolnjckgoilpaaW.PrintLast Go.Proofs.YtjolnjckgoilpaaW.PrintMore Go.Proofs.Ytjolnjckgoilpaa.PRa
theorem give25 (x : Int) (w : World) : Calls Try.prog 25 #[.int .i64 x] w fun e w' => e = .panicked [{ v := .iface 27 (.int .i64 x), recovered := false }] ∧ w' = w := by
  go_enter Try.func25, Try.ntmps25
  go_wp2
  exact ⟨rfl, rfl, rfl⟩
theorem nil22 (q : Addr) (w : World) (v : Value) (hc : w.cell? q = some v) (hz : w.frozen? q = false) : Calls Try.prog 22 #[.pointer (some q)] w fun e w' => e = .returned (.tuple #[]) ∧ w' = w.setCell q (.slice none 0 0) := by
  go_enter Try.func22, Try.ntmps22
  go_wp2
  go_end0
  exact ⟨rfl, rfl⟩
/-- told below a frame that returns: nothing. -/
theorem told_idle (p : Addr) (z : Value) (w : World) :
    CallsD Try.prog 21 #[.pointer (some p), z] .returning w fun e u' w' => e = .returned (.tuple #[]) ∧ u' = .returning ∧ w' = w := by
  refine callsD_of_wpS Try.func21 rfl fun c₀ cs hu => ?_
  apply wpS_seq
  apply wpS_region
  simp [wpOpsS, go_sem, recoverD, hu, Try.ntmps21, Exit.thenS]
  refine wpS_of_wp ?_
  simp only [Array.replicate_succ, Array.replicate_zero, List.push_toArray, List.append_toArray, List.nil_append, List.cons_append, List.setIfInBounds_toArray, List.set_cons_zero, List.set_cons_succ]
  go_wp2
  cases c₀
  simp_all [bodyPostS, results, Try.results21, Exit.thenS]
theorem told_caught (p q : Addr) (k : Nat) (ze : Value) (x : Int) (older : List PanicEntry) (w : World) (v : Value)
    (hk : ∀ W : World, W.cell? q = some v → W.frozen? q = false → Calls Try.prog k #[.pointer (some q)] W fun e w' => e = .returned (.tuple #[]) ∧ w' = W.setCell q ze)
    (he : ∀ (args : Array Value) (w : World), (callFunc k args).run Try.prog w = .ok (.enter k args) w)
    (vp : Value) (hp : w.cell? p = some vp) (hzp : w.frozen? p = false) (hq : w.cell? q = some v) (hzq : w.frozen? q = false) (hpq : p ≠ q) :
    CallsD Try.prog 21 #[.pointer (some p), .func (.func k) #[] #[.pointer (some q)]] (.panicking ({ v := .iface 27 (.int .i64 x), recovered := false } :: older)) w fun e u' w' =>
      e = .returned (.tuple #[]) ∧ u' = .panicking ({ v := .iface 27 (.int .i64 x), recovered := true } :: older) ∧ w' = (w.setCell p (.int .i64 x)).setCell q ze := by
  have hta : ∀ w : World, (Instr.typeAssert (.iface 27 (.int .i64 x)) 20 27 true).run Try.prog w = .ok (.tuple #[.int .i64 x, .bool true]) w := fun w => by kernel_rfl
  refine callsD_of_wpS Try.func21 rfl fun c₀ cs hu => ?_
  apply wpS_seq
  apply wpS_region
  simp [wpOpsS, go_sem, recoverD, hu, Try.ntmps21, Exit.thenS]
  refine wpS_of_wp ?_
  simp only [Array.replicate_succ, Array.replicate_zero, List.push_toArray, List.append_toArray, List.nil_append, List.cons_append, List.setIfInBounds_toArray, List.set_cons_zero, List.set_cons_succ]
  go_wp2_with fail
  refine (hk _ (by rw [World.cell?_setCell_other (h := hpq)]; exact hq) (by rw [World.frozen?_setCell]; exact hzq)).mono ?_
  rintro e w' ⟨rfl, rfl⟩
  go_wp2_with fail
  cases c₀
  simp_all [bodyPostS, results, Try.results21, Exit.thenS]
theorem enter22 (args : Array Value) (w : World) : (callFunc 22 args).run Try.prog w = .ok (.enter 22 args) w := Go.Proofs.enters_of Try.func22 (by kernel_rfl) rfl args w
/-- Are shards of one length (empty ones apart)? -/
def sizesB : Nat → List (List Int) → Bool
  | _, [] => true
  | s, x :: l => !(decide (0 < x.length) && decide (0 < s) && decide (x.length ≠ s)) && sizesB (max s x.length) l
def panicV (x : Int) : List PanicEntry := [{ v := .iface 27 (.int .i64 x), recovered := false }]
def AlikeQ (n : Int) (l : List (List Int)) (w : World) (e : Ending) (w' : World) : Prop :=
  e = (if (l.length : Int) = n ∧ sizesB 0 l = true then .returned (.tuple #[]) else .panicked (panicV 1)) ∧ w' = w
theorem row_len {l : List (List Int)} {k : Nat} (h : k < l.length) : l.drop k = rd_L1 l (k : Int) :: l.drop (k + 1) := by
  rw [List.drop_eq_getElem_cons h]
  simp [rd_L1, List.getD, h]
set_option maxHeartbeats 4000000 in
set_option maxRecDepth 100000 in
theorem alike23 (w : World) (n : Int) (A : Option Addr) (c : Nat) (l : List (List Int)) (hC : Kd.C (Kd.slice 5 (Kd.int .u8)) w A l.length l) (hml : l.length ≤ 100000000) :
    Calls Try.prog 23 #[.int .i64 n, .slice A l.length c] w (AlikeQ n l w) := by
  have HC := Aside0.mk hC
  clear hC
  obtain ⟨m, hm⟩ : ∃ m, l.length = m := ⟨_, rfl⟩
  unfold AlikeQ
  rw [hm] at HC hml ⊢
  have HM := Aside0.mk hm
  clear hm
  go_enter Try.func23, Try.ntmps23
  by_cases hn : (m : Int) = n
  · subst hn
    go_wp2_with fail
    go_loopw [4, 6, 14] (fun sz x i W => ∃ (k s : Nat), k ≤ m ∧ i = .int .i64 k ∧ sz = .int .i64 s ∧ W = w ∧ Aside0 (sizesB s (l.drop k) = sizesB 0 l)) (fun _ _ i _ => m - (intOf i).toNat)
    case atStart => exact ⟨0, 0, Nat.zero_le _, rfl, rfl, rfl, ⟨rfl⟩⟩
    case round =>
      obtain ⟨k, s, hk, rfl, rfl, rfl, HS⟩ := hrel
      by_cases hkm : k < m
      · clear hk
        obtain ⟨ad, A0, c0, eA, hx, hl, hi⟩ := at_L1 HC.out (k : Int) (by omega) (by omega)
        cases eA
        rw [row_len (by rw [HM.out]; exact hkm)] at HS
        generalize rd_L1 l (k : Int) = x at *
        clear hi
        have hki : decide ((k : Int) < (m : Int)) = true := decide_eq_true (by omega)
        have hk0 : (0 : Int) ≤ (k : Int) := by omega
        have hkm' : (k : Int) < (m : Int) := by omega
        rw [Int.toNat_natCast] at hx
        by_cases hb : 0 < x.length
        · have hbd : decide ((0 : Int) < (x.length : Int)) = true := decide_eq_true (by omega)
          by_cases hs : 0 < s
          · have hsd : decide ((0 : Int) < (s : Int)) = true := decide_eq_true (by omega)
            by_cases he : x.length = s
            · have hed : ((x.length : Int) != (s : Int)) = false := by rw [he]; simp
              have HS' : Aside0 (sizesB (max s x.length) (l.drop (k + 1)) = sizesB 0 l) := ⟨by rw [← HS.out]; simp [sizesB, he]⟩
              go_wp2_with fail
              go_roundw
              case measure => simp [intOf]; omega
              case rel => exact ⟨k + 1, max s x.length, by omega, by go_num, by go_num, by first | rfl | trivial, HS'⟩
            · have hed : ((x.length : Int) != (s : Int)) = true := by simp; omega
              have hno : sizesB 0 l = false := by rw [← HS.out]; simp [sizesB, hb, hs, he]
              go_wp2_with (go_at_call 25; refine (give25 _ _).mono ?_; rintro e w' ⟨rfl, rfl⟩)
              exact ⟨rfl, by first | rfl | (rw [if_neg (by rw [hno]; simp)]; rfl), rfl⟩
          · have hsd : decide ((0 : Int) < (s : Int)) = false := decide_eq_false (by omega)
            have HS' : Aside0 (sizesB (max s x.length) (l.drop (k + 1)) = sizesB 0 l) := ⟨by rw [← HS.out]; simp [sizesB, hs]⟩
            go_wp2_with fail
            go_roundw
            case measure => simp [intOf]; omega
            case rel => exact ⟨k + 1, max s x.length, by omega, by go_num, by go_num, by first | rfl | trivial, HS'⟩
        · have hbd : decide ((0 : Int) < (x.length : Int)) = false := decide_eq_false (by omega)
          have HS' : Aside0 (sizesB (max s x.length) (l.drop (k + 1)) = sizesB 0 l) := ⟨by rw [← HS.out]; simp [sizesB, hb]⟩
          go_wp2_with fail
          go_roundw
          case measure => simp [intOf]; omega
          case rel => exact ⟨k + 1, max s x.length, by omega, by go_num, by go_num, by first | rfl | trivial, HS'⟩
      · obtain rfl : k = m := by omega
        have hyes : sizesB 0 l = true := by rw [← HS.out, List.drop_eq_nil_of_le (by rw [HM.out]; exact Nat.le_refl _)]; rfl
        go_wp2_with fail
        go_end0
        exact ⟨by first | rfl | (rw [if_pos ⟨rfl, hyes⟩]) | simp, rfl⟩
  · go_wp2_with (go_at_call 25; refine (give25 _ _).mono ?_; rintro e w' ⟨rfl, rfl⟩)
    exact ⟨rfl, by first | rfl | (rw [if_neg (fun h => hn h.1)]; rfl), rfl⟩
end Go.Proofs.Ytjolnjckgoilpaa.Rs
end

section
/-
  rs.products: all products of an element.
-/
set_option linter.unusedVariables false
set_option linter.unusedSimpArgs false
namespace Go.Proofs.Ytjolnjckgoilpaa.Rs
open Go.RowKit Go.Proofs.YtjolnjckgoilpaaW.PrintWords Go.Proofs.YtjolnjckgoilpaaW.PrintLast Go.Proofs.YtjolnjckgoilpaaW.PrintMore Go.Proofs.Ytjolnjckgoilpaa.PRa Go.Proofs.Ytjolnjckgoilpaa.Gf
/-- The products of an element with all others. -/
def pT (a : Nat) : Array Value := rowCells 256 256 fun j => ((GfM.M a j : Nat) : Int)
theorem zero82 (f : Nat → Int) : Try.zeroCells82 = rowCells 256 0 f := by
  have h : rowCells 256 0 f = rowCells 256 0 (fun _ => 0) := by unfold rowCells; simp
  have h2 : Try.zeroCells82 = rowCells 256 0 (fun _ => 0) := by kernel_rfl
  exact h2.trans h.symm
theorem info82 : (Try.prog.info? 82).map (·.size) = some 256 := by kernel_rfl
theorem rowCells_get {c j k : Nat} {f : Nat → Int} (hc : k < c) : (rowCells c j f)[k]? = some (.int .u8 (if k < j then f k else 0)) := by
  unfold rowCells; simp [hc]
theorem rowCells_one (c j : Nat) (f : Nat → Int) : (rowCells c j f).all (·.oneCell') = true := by
  rw [Array.all_eq_true_iff_forall_mem]
  intro v hv
  simp only [rowCells, List.mem_toArray, List.mem_map] at hv
  obtain ⟨x, _, rfl⟩ := hv
  rfl
theorem wrap_u8 (k : Nat) (h : k < 256) : IntKind.u8.wrap (k : Int) = (k : Int) := by
  rw [show IntKind.u8.wrap (k : Int) = (k : Int) % 256 by first | rfl | simp [IntKind.wrap]]
  omega
theorem frozen_blk {w : World} {g j : Nat} {t : TypeId} {cs : Array Value} (h : w.heap[g]? = some (.cells cs t (0, 0))) : w.frozen? ⟨g, j, none⟩ = false := by
  unfold World.frozen?
  simp [h]
set_option maxHeartbeats 4000000 in
set_option maxRecDepth 100000 in
theorem products61 (w : World) (a : Nat) (ha : a < 256) : Calls Try.prog 61 #[.int .u8 a] w fun e w' => e = .returned (.agg (pT a)) ∧ Below w.heap.size w w' := by
  have HM := Aside0.mk (fun (j : Nat) (hj : j < 256) => mul_ok 100 a j (by omega) ha hj)
  have HI := Aside0.mk info82
  go_enter Try.func61, Try.ntmps61
  go_wp2_with fail
  rw [zero82 (fun j => ((GfM.M a j : Nat) : Int))]
  go_loopw [4] (fun i W => ∃ (k : Nat), k ≤ 256 ∧ i = .int .i64 k ∧ Aside0 (W.heap[w.heap.size]? = some (.cells (rowCells 256 k fun j => ((GfM.M a j : Nat) : Int)) 82 (0, 0))) ∧ Aside0 (Below w.heap.size w W)) (fun i _ => 256 - (intOf i).toNat)
  case atStart => exact ⟨0, Nat.zero_le _, rfl, ⟨heap_alloc_last _ _⟩, ⟨below_alloc (Below.refl _ _) _⟩⟩
  case round =>
    obtain ⟨k, hk, rfl, HG, HB⟩ := hrel
    by_cases hk2 : k < 256
    · clear hk
      have hki : decide ((k : Int) < 256) = true := decide_eq_true (by omega)
      have hkw : IntKind.u8.wrap (k : Int) = (k : Int) := wrap_u8 k hk2
      have hz : wr.frozen? ⟨w.heap.size, k, none⟩ = false := frozen_blk HG.out
      have hc : wr.cell? ⟨w.heap.size, k, none⟩ = some (.int .u8 0) := by
        rw [cell_of_row wr w.heap.size k _ 82 (0, 0) HG.out, rowCells_get hk2, if_neg (Nat.lt_irrefl _)]
      go_wp2_with (go_at_call 60; refine (gf_Mul.calls 100 a k _ _ (HM.out k hk2)).mono ?_; rintro e w1 ⟨rfl, ⟨nd, rfl⟩⟩)
      have HG2 : Aside0 (((wr.drewN nd).setCell ⟨w.heap.size, k, none⟩ (.int .u8 ((GfM.M a k : Nat) : Int))).heap[w.heap.size]? = some (.cells (rowCells 256 (k + 1) fun j => ((GfM.M a j : Nat) : Int)) 82 (0, 0))) := ⟨by
        have := blkset (w := wr.drewN nd) HG.out k (.int .u8 ((GfM.M a k : Nat) : Int))
        rw [this]
        exact congrArg (fun c => some (Obj.cells c 82 (0, 0))) (rowCells_set (c := 256) (j := k) (f := fun j => ((GfM.M a j : Nat) : Int)))⟩
      have HB2 := Aside0.mk (below_set (g := w.heap.size) (j := k) (v := .int .u8 ((GfM.M a k : Nat) : Int)) (pw_below_drewN HB.out nd) (Nat.le_refl _))
      clear HG HB
      go_roundw
      case measure => simp [intOf]; omega
      case rel => exact ⟨k + 1, by omega, by go_num, HG2, HB2⟩
    · obtain rfl : k = 256 := by omega
      replace HG : Aside0 (wr.heap[w.heap.size]? = some (.cells (pT a) 82 (0, 0))) := ⟨HG.out⟩
      go_wp2_with (first
        | ((with_reducible refine gate_dst (N := 14) rfl ?_); refine wpList_load_row rfl 82 (.tmp 2) rfl w.heap.size rfl 82 (pT a) (0, 0) _ HG.out Try.underlying82 rfl HI.out ?_)
        | ((with_reducible refine gate_store (t := 82) (p := 2) (v := .tmp 14) rfl ?_); refine wpList_store_row rfl 82 (.tmp 2) (.tmp 14) rfl w.heap.size (pT a) rfl rfl 82 (pT a) HG.out HI.out rfl (rowCells_one _ _ _) ?_; rw [setRow_self _ _ _ _ _ HG.out]))
      refine bodyPost_ret (results_cell_row rfl _ _ w.heap.size 82 (pT a) (0, 0) _ rfl HG.out Try.underlying82 rfl HI.out) rfl ?_
      exact ⟨rfl, HB.out⟩
end Go.Proofs.Ytjolnjckgoilpaa.Rs
end
