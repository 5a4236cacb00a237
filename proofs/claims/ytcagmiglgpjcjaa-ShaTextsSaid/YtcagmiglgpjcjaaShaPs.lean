/-
  The walk of Parse.
-/
import Derived.Test.YtcagmiglgpjcjaaShaIx
set_option linter.unusedVariables false
set_option linter.unusedSimpArgs false
namespace Go.Proofs.Ytcagmiglgpjcjaa.Sh
open Go.RowKit Go.Proofs.YtcagmiglgpjcjaaW.PrintWords Go.Proofs.YtcagmiglgpjcjaaW.PrintLast Go.Proofs.YtcagmiglgpjcjaaW.PrintMore Go.Proofs.Ytcagmiglgpjcjaa.PSa

/-- The bytes, digit by digit. -/
def pst (s : ByteArray) : Nat → List Int
  | 0 => z32
  | k + 1 => (pst s k).set (k / 2) (bits .or .u8 (at32 (pst s k) (k / 2) * 16 % 256) (ixd (bt s k) % 256))
theorem pst_length (s : ByteArray) : ∀ k, (pst s k).length = 32
  | 0 => rfl
  | k + 1 => by rw [pst, List.length_set, pst_length s k]
def prOk (s : ByteArray) : Bool := decide (s.size = 64) && (List.range 64).all fun j => decide (0 ≤ ixd (bt s (j : Int)))
def prZ (s : ByteArray) : List Int := if prOk s = true then pst s 64 else z32
def prE (s : ByteArray) : Int := if prOk s = true then 0 else 24
theorem results_cell_tmp {P : Program} {fn : Func} {p q : Tmp} {ty : TypeId} (h : fn.results = #[.cell p ty, .tmp q]) (tmps : Array Value) (w : World) (g : Nat) (t : TypeId) (cs : Array Value) (fr : Nat × Nat) (d : TypeDesc)
    (hp : tmps.getD p undef = .pointer (some ⟨g, 0, none⟩)) (v : Value) (hv : tmps.getD q undef = v) (hg : w.heap[g]? = some (.cells cs t fr))
    (hu : P.underlying ty = some d) (hd : (match d with | .struct _ | .array _ _ => true | _ => false) = true) (hi : (P.info? ty).map (·.size) = some cs.size) :
    (results fn tmps).run P w = .ok (.tuple #[.agg cs, v]) w := by
  have hp' : tmps[p]?.getD undef = .pointer (some ⟨g, 0, none⟩) := by simpa using hp
  have hv' : tmps[q]?.getD undef = v := by simpa using hv
  simp [results, h, hp', hv', asAddr, run_loadVar_row w g t ty cs fr d hg hu hd hi]
theorem ixd_range (c : Int) (h0 : 0 ≤ c) (h1 : c ≤ 255) : -1 ≤ ixd c ∧ ixd c ≤ 15 := by
  rw [ixd_eq c h0 h1]
  split
  · omega
  · split <;> omega
theorem prOk_not {s : ByteArray} {k : Nat} (hk : k < 64) (h : ixd (bt s (k : Int)) < 0) : prOk s = false := by
  rw [Bool.eq_false_iff]
  intro hp
  simp only [prOk, Bool.and_eq_true, List.all_eq_true, List.mem_range, decide_eq_true_eq] at hp
  have := hp.2 k hk
  omega
theorem prOk_yes {s : ByteArray} (hs : s.size = 64) (h : ∀ j : Nat, j < 64 → 0 ≤ ixd (bt s (j : Int))) : prOk s = true := by
  simp only [prOk, Bool.and_eq_true, List.all_eq_true, List.mem_range, decide_eq_true_eq]
  exact ⟨hs, h⟩
set_option maxRecDepth 100000 in
set_option maxHeartbeats 40000000 in
theorem parse15 (w : World) (s : ByteArray) (hs : s.size ≤ 9223372036854775807) :
    Calls Try.prog 15 #[.string s] w fun e w' => e = .returned (.tuple #[.agg (u8s (prZ s)), .int .i64 (prE s)]) ∧ Below w.heap.size w w' := by
  have HI := Aside0.mk (show ∀ l : List Int, l.length = 32 → (Try.prog.info? 25).map (·.size) = some (u8s l).size from fun l hl => by rw [u8s_size, hl]; exact zero25.2)
  have s1 : (w.alloc (.cells (u8s z32) 25)).heap.size = w.heap.size + 1 := by show (w.heap.push _).size = _; simp
  have hB0 : Below w.heap.size w ((w.alloc (.cells (u8s z32) 25)).alloc (.cells (u8s z32) 25)) := ((Below.refl _ _).alloc (Nat.le_refl _) _).alloc (by omega) _
  have hr0 : ((w.alloc (.cells (u8s z32) 25)).alloc (.cells (u8s z32) 25)).heap[w.heap.size]? = some (.cells (u8s z32) 25 (0, 0)) := blkalloc (blk_new w _) _
  have hz0 : ((w.alloc (.cells (u8s z32) 25)).alloc (.cells (u8s z32) 25)).heap[w.heap.size + 1]? = some (.cells (u8s z32) 25 (0, 0)) := by rw [← s1]; exact blk_new _ _
  go_enter Try.func15, Try.ntmps15
  by_cases h64 : s.size = 64
  · have h64i : (s.size : Int) = 64 := by omega
    go_wp2_with (first
      | ((with_reducible refine gate_dst (N := 2) rfl ?_); refine step_alloc rfl 25 rfl (u8s z32) zero25.1 ?_)
      | ((with_reducible refine gate_dst (N := 4) rfl ?_); refine step_alloc rfl 25 rfl (u8s z32) zero25.1 ?_; generalize ((w.alloc (.cells (u8s z32) 25)).alloc (.cells (u8s z32) 25)) = wA at *))
    generalize hg : w.heap.size = g at *
    have Hg := Aside0.mk hg
    clear hg
    go_loopw [13, 5, 6] (fun i _ _ wr => ∃ k : Nat, k ≤ 64 ∧ i = .int .i64 (k : Nat) ∧ (∀ j, j < k → 0 ≤ ixd (bt s (j : Int))) ∧ Below g w wr ∧ wr.heap[g]? = some (.cells (u8s z32) 25 (0, 0)) ∧ wr.heap[g + 1]? = some (.cells (u8s (pst s k)) 25 (0, 0))) (fun i _ _ _ => 64 - (intOf i).toNat)
    case atStart => exact ⟨0, by omega, rfl, fun j hj => absurd hj (Nat.not_lt_zero j), hB0, hr0, hz0⟩
    case round =>
      clear hB0 hr0 hz0
      obtain ⟨k, hk, rfl, hgood, hB, hR, hZ⟩ := hrel
      by_cases hlt : k < 64
      · have HIx := Aside0.mk (fun W => ix25 Dg16 (bt s (k : Int)) W)
        have hbt : ∀ h : k < s.size, ((s[k]'h).toNat : Int) = bt s (k : Int) := fun h => bt_at s (k : Int) h
        have hbr := bt_range s (k : Int)
        have q1 : (0 : Int) ≤ (k : Int) := by omega
        have q2 : (k : Int) < 64 := by omega
        have q3 : k < s.size := by omega
        obtain ⟨a, ha⟩ : ∃ a : Nat, k / 2 = a := ⟨_, rfl⟩
        have e1 : (k : Int) / 2 = (a : Int) := by omega
        have q4 : (0 : Int) ≤ (a : Int) := by omega
        have q5 : (a : Int) < 32 := by omega
        have hcz := at8_cell hZ (i := a) (by rw [pst_length]; omega)
        have hfz := frozen_of_row wr (g + 1) a _ _ hZ
        have HX := Aside0.mk (show pst s (k + 1) = (pst s k).set a (bits .or .u8 (at32 (pst s k) a * 16 % 256) (ixd (bt s (k : Int)) % 256)) by rw [pst, ha])
        have HG := Aside0.mk hgood
        have HB := Aside0.mk hB
        have HR := Aside0.mk hR
        have HZ := Aside0.mk hZ
        have HIx2 := Aside0.mk (show ∀ W : World, Calls Try.prog 25 #[.string { data := #[48, 49, 50, 51, 52, 53, 54, 55, 56, 57, 97, 98, 99, 100, 101, 102] }, .int .u8 (bt s (k : Int))] W fun e w' => e = .returned (.int .i64 (ixd (bt s (k : Int)))) ∧ w' = W from HIx.out)
        have Hvr := Aside0.mk (ixd_range (bt s (k : Int)) hbr.1 hbr.2)
        clear HIx hbr hgood hB hR hZ ha
        have HV := Aside0.mk (show ixd (bt s (k : Int)) = ixd (bt s (k : Int)) from rfl)
        generalize hvv : ixd (bt s (k : Int)) = v at HX HIx2 Hvr
        have Hvv := Aside0.mk hvv
        clear hvv HV
        generalize at32 (pst s k) a = y at *
        by_cases hneg : v < 0
        · go_wp2_with (first
            | (go_at_call 25; refine (HIx2.out _).mono ?_; rintro e w2 ⟨rfl, rfl⟩)
            | ((with_reducible refine gate_dst (N := 22) rfl ?_); refine Kd.event_run (v := .agg (u8s z32)) rfl (by kernel_rfl) ?_)
            | ((with_reducible refine gate_store (t := 25) (p := 2) (v := .tmp 22) rfl ?_); refine wpList_store_row rfl 25 (.tmp 2) (.tmp 22) rfl g (u8s z32) rfl rfl 25 (u8s z32) HR.out (HI.out z32 rfl) rfl (u8s_one z32) ?_))
          (try simp only [Exit.inBlock, Exit.then])
          refine bodyPost_ret (results_cell_tmp rfl _ _ g 25 (u8s z32) (0, 0) _ rfl _ rfl (setRow_heap _ _ _ _ 25 _ HR.out) Try.underlying25 rfl (HI.out z32 rfl)) rfl ?_
          have hok := prOk_not (s := s) hlt (by rw [Hvv.out]; exact hneg)
          exact ⟨by simp [prZ, prE, hok], by rw [Hg.out]; exact below_setRow HB.out (Nat.le_refl _) _⟩
        · have e2 : IntKind.u8.wrap v = v % 256 := IntKind.wrap_u8 v
          go_wp2_with (go_at_call 25; refine (HIx2.out _).mono ?_; rintro e w2 ⟨rfl, rfl⟩)
          go_roundw
          case rel => exact ⟨k + 1, hlt, rfl, fun j hj => by
            rcases Nat.lt_succ_iff_lt_or_eq.1 hj with h | h
            · exact HG.out j h
            · rw [h, Hvv.out]; exact (by first | exact hneg | exact Int.not_lt.1 hneg), HB.out.setCell (Nat.le_succ g) _, blkfar HR.out (Nat.ne_of_lt (Nat.lt_succ_self g)) _, by rw [HX.out, ← u8s_set]; exact blkset HZ.out a _⟩
          case measure => simp [intOf]; omega
      · obtain rfl : k = 64 := Nat.le_antisymm hk (Nat.not_lt.1 hlt)
        have hok := prOk_yes h64 hgood
        have hpl := pst_length s 64
        have HOk := Aside0.mk (show prZ s = pst s 64 ∧ prE s = 0 by simp [prZ, prE, hok])
        have HB := Aside0.mk hB
        have HR := Aside0.mk hR
        have HZ := Aside0.mk hZ
        clear hB hR hZ hgood hok
        generalize pst s 64 = Z at *
        go_wp2_with (first
          | ((with_reducible refine gate_dst (N := 35) rfl ?_); refine wpList_load_row rfl 25 (.tmp 4) rfl (g + 1) rfl 25 (u8s Z) (0, 0) _ HZ.out Try.underlying25 rfl (HI.out Z hpl) ?_)
          | ((with_reducible refine gate_store (t := 25) (p := 2) (v := .tmp 35) rfl ?_); refine wpList_store_row rfl 25 (.tmp 2) (.tmp 35) rfl g (u8s Z) rfl rfl 25 (u8s z32) HR.out (HI.out Z hpl) (by rw [u8s_size, u8s_size, hpl]; rfl) (u8s_one Z) ?_))
        (try simp only [Exit.inBlock, Exit.then])
        refine bodyPost_ret (results_cell_tmp rfl _ _ g 25 (u8s Z) (0, 0) _ rfl _ rfl (setRow_heap _ _ _ _ 25 _ HR.out) Try.underlying25 rfl (HI.out Z hpl)) rfl ?_
        exact ⟨by rw [HOk.out.1, HOk.out.2]; rfl, by rw [Hg.out]; exact below_setRow HB.out (Nat.le_refl _) _⟩
  · have hok : prOk s = false := by simp [prOk, h64]
    have q1 : ¬ (s.size : Int) = 64 := by omega
    go_wp2_with (first
      | ((with_reducible refine gate_dst (N := 2) rfl ?_); refine step_alloc rfl 25 rfl (u8s z32) zero25.1 ?_)
      | ((with_reducible refine gate_dst (N := 4) rfl ?_); refine step_alloc rfl 25 rfl (u8s z32) zero25.1 ?_; generalize ((w.alloc (.cells (u8s z32) 25)).alloc (.cells (u8s z32) 25)) = wA at *)
      | ((with_reducible refine gate_dst (N := 10) rfl ?_); refine Kd.event_run (v := .agg (u8s z32)) (w1 := wA) rfl (by kernel_rfl) ?_)
      | ((with_reducible refine gate_store (t := 25) (p := 2) (v := .tmp 10) rfl ?_); refine wpList_store_row rfl 25 (.tmp 2) (.tmp 10) rfl w.heap.size (u8s z32) rfl rfl 25 (u8s z32) hr0 (HI.out z32 rfl) rfl (u8s_one z32) ?_))
    (try simp only [Exit.inBlock, Exit.then])
    refine bodyPost_ret (results_cell_tmp rfl _ _ w.heap.size 25 (u8s z32) (0, 0) _ rfl _ rfl (setRow_heap wA _ _ _ 25 _ hr0) Try.underlying25 rfl (HI.out z32 rfl)) rfl ?_
    exact ⟨by simp [prZ, prE, hok], below_setRow hB0 (Nat.le_refl _) _⟩
end Go.Proofs.Ytcagmiglgpjcjaa.Sh
