/- Several texts of this session laid together: SgTab, SgSum, SgLow, SgPg, SgHd, SgPs, SgPa. -/
import Derived.Test.YtjnicooboiijgaaMRs
import Derived.Test.YtjnicooboiijgaaPSgx3
import Derived.Test.YtjnicooboiijgaaPSgx1
section
/-
  frame.table: the remainders of half a byte.
-/
set_option linter.unusedVariables false
set_option linter.unusedSimpArgs false
namespace Go.Proofs.Ytjnicooboiijgaa.Sg
open Go.RowKit Go.Proofs.YtjnicooboiijgaaW.PrintWords Go.Proofs.YtjnicooboiijgaaW.PrintLast Go.Proofs.YtjnicooboiijgaaW.PrintMore Go.Proofs.Ytjnicooboiijgaa.PSg Go.Proofs.Ytjnicooboiijgaa.Gf Go.Proofs.Ytjnicooboiijgaa.Rs
/-- One bit of the remainder. -/
def crc1 (c : Nat) : Nat := if c % 2 = 1 then (c / 2) ^^^ 2197175160 else c / 2
def crcN : Nat → Nat → Nat
  | 0, c => c
  | n + 1, c => crc1 (crcN n c)
def tT (i : Nat) : Nat := crcN 4 i
theorem crc1_lt (c : Nat) (h : c < 4294967296) : crc1 c < 4294967296 := by
  unfold crc1
  split
  · exact Nat.xor_lt_two_pow (n := 32) (by omega) (by omega)
  · omega
theorem crcN_lt : ∀ (n c : Nat), c < 4294967296 → crcN n c < 4294967296
  | 0, _, h => h
  | n + 1, c, h => crc1_lt _ (crcN_lt n c h)
theorem tT_lt (i : Nat) (h : i < 4294967296) : tT i < 4294967296 := crcN_lt 4 i h
/-- An array of 32-bit numbers, of which the first j are laid. -/
def rowU (n j : Nat) (f : Nat → Nat) : Array Value := ((List.range n).map fun q => Value.int .u32 (if q < j then ((f q : Nat) : Int) else 0)).toArray
theorem rowU_get {n j k : Nat} {f : Nat → Nat} (hk : k < n) : (rowU n j f)[k]? = some (.int .u32 (if k < j then ((f k : Nat) : Int) else 0)) := by
  unfold rowU; simp [hk]
theorem rowU_one (n j : Nat) (f : Nat → Nat) : (rowU n j f).all (·.oneCell') = true := by
  rw [Array.all_eq_true_iff_forall_mem]
  intro v hv
  simp only [rowU, List.mem_toArray, List.mem_map] at hv
  obtain ⟨x, _, rfl⟩ := hv
  rfl
theorem rowU_set {n j : Nat} {f : Nat → Nat} : (rowU n j f).setIfInBounds j (.int .u32 ((f j : Nat) : Int)) = rowU n (j + 1) f := by
  apply Array.ext_getElem?
  intro k
  rw [Array.getElem?_setIfInBounds]
  by_cases hk : k < n
  · rw [rowU_get hk, rowU_get hk]
    by_cases e : j = k
    · subst e
      have : j < (rowU n j f).size := by simp [rowU]; exact hk
      simp [this]
    · rw [if_neg e]
      have : k < j ↔ k < j + 1 := by omega
      simp [this]
  · have h1 : ∀ j, (rowU n j f)[k]? = none := fun j => by simp [rowU]; omega
    rw [h1, h1]
    by_cases e : j = k
    · subst e
      have : ¬ j < (rowU n j f).size := by simp [rowU]; omega
      simp [this]
    · rw [if_neg e]
def tA : Array Value := rowU 16 16 tT
theorem info131 : (Try.prog.info? 131).map (·.size) = some 16 := by kernel_rfl
theorem and_bit (c : Nat) (h : c < 4294967296) : bits .and .u32 (c : Int) 1 = ((c % 2 : Nat) : Int) := by
  rw [show (1 : Int) = ((1 : Nat) : Int) from rfl, u32_and_nat c 1 h (by omega), Nat.and_one_is_mod]
set_option maxHeartbeats 4000000 in
set_option maxRecDepth 100000 in
theorem table80 (w : World) : Calls Try.prog 80 #[] w fun e w' => e = .returned (.agg tA) ∧ Below w.heap.size w w' := by
  have HI := Aside0.mk info131
  go_enter Try.func80, Try.ntmps80
  go_wp2_with fail
  go_loopw [4] (fun i W => ∃ (k : Nat), k ≤ 16 ∧ i = .int .i64 k ∧ Aside0 (W.heap[w.heap.size]? = some (.cells (rowU 16 k tT) 131 (0, 0))) ∧ Aside0 (Below w.heap.size w W)) (fun i _ => 16 - (intOf i).toNat)
  case atStart => exact ⟨0, Nat.zero_le _, rfl, ⟨heap_alloc_last _ _⟩, ⟨below_alloc (Below.refl _ _) _⟩⟩
  case round =>
    obtain ⟨k, hk, rfl, HG, HB⟩ := hrel
    by_cases hk2 : k < 16
    · clear hk
      have hki : decide ((k : Int) < 16) = true := decide_eq_true (by omega)
      have hz : wr.frozen? ⟨w.heap.size, k, none⟩ = false := frozen_blk HG.out
      have hc : wr.cell? ⟨w.heap.size, k, none⟩ = some (.int .u32 0) := by
        rw [cell_of_row wr w.heap.size k _ 131 (0, 0) HG.out, rowU_get hk2, if_neg (Nat.lt_irrefl _)]
      have hkw : IntKind.u32.wrap (k : Int) = (k : Int) := by rw [show IntKind.u32.wrap (k : Int) = (k : Int) % 4294967296 by first | rfl | simp [IntKind.wrap]]; omega
      go_wp2_with fail
      go_loopw [2, 3, 9] (fun cv bv qv W => ∃ (q : Nat), q ≤ 4 ∧ qv = .int .i64 q ∧ cv = .int .u32 (crcN q k : Nat) ∧ Aside0 (W.heap[w.heap.size]? = some (.cells (rowU 16 k tT) 131 (0, 0))) ∧ Aside0 (Below w.heap.size w W)) (fun _ _ qv _ => 4 - (intOf qv).toNat)
      case atStart => exact ⟨0, Nat.zero_le _, rfl, rfl, HG, HB⟩
      case round =>
        clear HG HB hz hc
        obtain ⟨q, hq, rfl, rfl, HG, HB⟩ := hrel
        by_cases hq4 : q < 4
        · clear hq
          have hqi : decide ((q : Int) < 4) = true := decide_eq_true (by omega)
          have hcl := crcN_lt q k (by omega)
          have HS := Aside0.mk (show crcN (q + 1) k = crc1 (crcN q k) from rfl)
          generalize crcN q k = c at *
          have hb := and_bit c hcl
          unfold crc1 at HS
          by_cases h1 : c % 2 = 1
          · rw [h1] at hb
            rw [if_pos h1] at HS
            have hx : bits .xor .u32 ((c : Int) / 2) 2197175160 = ((c / 2 ^^^ 2197175160 : Nat) : Int) := by
              rw [show ((c : Int) / 2) = ((c / 2 : Nat) : Int) by omega, show (2197175160 : Int) = ((2197175160 : Nat) : Int) from rfl, u32_xor_nat _ _ (by omega) (by omega)]
            clear h1
            go_wp2_with fail
            go_roundw
            case measure => simp [intOf]; omega
            case rel => exact ⟨q + 1, by omega, by go_num, by rw [HS.out], HG, HB⟩
          · have h2 : c % 2 = 0 := by omega
            rw [h2] at hb
            rw [if_neg h1] at HS
            clear h1 h2
            go_wp2_with fail
            go_roundw
            case measure => simp [intOf]; omega
            case rel => exact ⟨q + 1, by omega, by go_num, by rw [HS.out, show ((c / 2 : Nat) : Int) = (c : Int) / 2 by omega], HG, HB⟩
        · obtain rfl : q = 4 := by omega
          have hz : wr.frozen? ⟨w.heap.size, k, none⟩ = false := frozen_blk HG.out
          have hc : wr.cell? ⟨w.heap.size, k, none⟩ = some (.int .u32 0) := by
            rw [cell_of_row wr w.heap.size k _ 131 (0, 0) HG.out, rowU_get hk2, if_neg (Nat.lt_irrefl _)]
          have HG2 : Aside0 ((wr.setCell ⟨w.heap.size, k, none⟩ (.int .u32 ((tT k : Nat) : Int))).heap[w.heap.size]? = some (.cells (rowU 16 (k + 1) tT) 131 (0, 0))) := ⟨by
            have := blkset (w := wr) HG.out k (.int .u32 ((tT k : Nat) : Int))
            rw [this]
            exact congrArg (fun c => some (Obj.cells c 131 (0, 0))) (rowU_set (n := 16) (j := k) (f := tT))⟩
          have HB2 := Aside0.mk (below_set (g := w.heap.size) (j := k) (v := .int .u32 ((tT k : Nat) : Int)) HB.out (Nat.le_refl _))
          clear HG HB
          rw [show crcN 4 k = tT k from rfl]
          have hk0 : (0 : Int) ≤ (k : Int) := by omega
          have hk16 : (k : Int) < 16 := by omega
          generalize tT k = t at *
          go_wp2_with fail
          go_roundw
          case measure => simp [intOf]; omega
          case rel => exact ⟨k + 1, by omega, by go_num, HG2, HB2⟩
    · obtain rfl : k = 16 := by omega
      replace HG : Aside0 (wr.heap[w.heap.size]? = some (.cells tA 131 (0, 0))) := ⟨HG.out⟩
      go_wp2_with (first
        | ((with_reducible refine gate_dst (N := 24) rfl ?_); refine wpList_load_row rfl 131 (.tmp 0) rfl w.heap.size rfl 131 tA (0, 0) _ HG.out Try.underlying131 rfl HI.out ?_)
        | ((with_reducible refine gate_store (t := 131) (p := 0) (v := .tmp 24) rfl ?_); refine wpList_store_row rfl 131 (.tmp 0) (.tmp 24) rfl w.heap.size tA rfl rfl 131 tA HG.out HI.out rfl (rowU_one _ _ _) ?_; rw [setRow_self _ _ _ _ _ HG.out]))
      refine bodyPost_ret (results_cell_row rfl _ _ w.heap.size 131 tA (0, 0) _ rfl HG.out Try.underlying131 rfl HI.out) rfl ?_
      exact ⟨rfl, HB.out⟩
end Go.Proofs.Ytjnicooboiijgaa.Sg
end

section
/-
  frame.Sum: the checksum of parts, half a byte at a time.
-/
set_option linter.unusedVariables false
set_option linter.unusedSimpArgs false
namespace Go.Proofs.Ytjnicooboiijgaa.Sg
open Go.RowKit Go.Proofs.YtjnicooboiijgaaW.PrintWords Go.Proofs.YtjnicooboiijgaaW.PrintLast Go.Proofs.YtjnicooboiijgaaW.PrintMore Go.Proofs.Ytjnicooboiijgaa.PSg Go.Proofs.Ytjnicooboiijgaa.Gf Go.Proofs.Ytjnicooboiijgaa.Rs
def half (c : Nat) : Nat := (c / 16) ^^^ tT (c % 16)
def stepB (c x : Nat) : Nat := half (half (c ^^^ x))
/-- The remainder behind the first j bytes of a row. -/
def sumN (l : List (List Int)) (i c : Nat) : Nat → Nat
  | 0 => c
  | j + 1 => stepB (sumN l i c j) (byt l i j)
/-- The remainder behind the first k rows. -/
def sumL (l : List (List Int)) : Nat → Nat
  | 0 => 4294967295
  | k + 1 => sumN l k (sumL l k) (row l k).length
def sumF (l : List (List Int)) : Nat := 4294967295 ^^^ sumL l l.length
theorem half_lt (c : Nat) (h : c < 4294967296) : half c < 4294967296 := by
  unfold half
  exact Nat.xor_lt_two_pow (n := 32) (by omega) (tT_lt _ (by omega))
theorem stepB_lt (c x : Nat) (h : c < 4294967296) (hx : x < 256) : stepB c x < 4294967296 := half_lt _ (half_lt _ (Nat.xor_lt_two_pow (n := 32) h (by omega)))
theorem sumN_lt {l : List (List Int)} (ok : okB l = true) (i c : Nat) (h : c < 4294967296) : ∀ j, sumN l i c j < 4294967296
  | 0 => h
  | j + 1 => stepB_lt _ _ (sumN_lt ok i c h j) (okB_at ok i j).1
theorem sumL_lt {l : List (List Int)} (ok : okB l = true) : ∀ k, sumL l k < 4294967296
  | 0 => by show 4294967295 < 4294967296; omega
  | k + 1 => sumN_lt ok k _ (sumL_lt ok k) _
theorem and_low (c : Nat) (h : c < 4294967296) : bits .and .u32 (c : Int) 15 = ((c % 16 : Nat) : Int) := by
  rw [show (15 : Int) = ((15 : Nat) : Int) from rfl, u32_and_nat c 15 h (by omega)]
  congr 1
  exact Nat.and_two_pow_sub_one_eq_mod c 4
theorem half_xor (c : Nat) (h : c < 4294967296) : bits .xor .u32 ((c : Int) / 16) ((tT (c % 16) : Nat) : Int) = ((half c : Nat) : Int) := by
  rw [show ((c : Int) / 16) = ((c / 16 : Nat) : Int) by omega, u32_xor_nat _ _ (by omega) (tT_lt _ (by omega))]
  rfl
theorem tab_cell {W : World} {g c : Nat} (h : W.heap[g]? = some (.cells tA 131 (0, 0))) : W.cell? ⟨g, c % 16, none⟩ = some (.int .u32 ((tT (c % 16) : Nat) : Int)) := by
  rw [cell_of_row W g (c % 16) _ 131 (0, 0) h]
  have : c % 16 < 16 := by omega
  unfold tA
  rw [rowU_get this, if_pos this]
set_option maxHeartbeats 4000000 in
set_option maxRecDepth 100000 in
theorem sum73 (w : World) (A : Option Addr) (c n : Nat) (l : List (List Int)) (hA : KR.C w A n l) (ok : okB l = true) (hn : n ≤ 1000000) (hl9 : ∀ i, i < n → (row l i).length ≤ 1000000) :
    Calls Try.prog 73 #[.slice A n c] w fun e w' => e = .returned (.int .u32 ((sumF l : Nat) : Int)) ∧ Below w.heap.size w w' := by
  have hl : l.length = n := Kd.C_len hA
  have HA := Aside0.mk hA
  have OK := Aside0.mk ok
  have HLL := Aside0.mk hl
  have HL9 := Aside0.mk hl9
  clear hA ok hl hl9
  go_enter Try.func73, Try.ntmps73
  go_wp2_with (first
    | (go_at_call 80; refine (table80 _).mono ?_; rintro e w1 ⟨rfl, hb⟩; have HB1 := Aside0.mk hb; clear hb)
    | ((with_reducible refine gate_store (t := 131) (p := 3) (v := .tmp 9) rfl ?_); refine wpList_store_row rfl 131 (.tmp 3) (.tmp 9) rfl w1.heap.size tA rfl rfl 131 _ (heap_alloc_last _ _) info131 rfl (rowU_one _ _ _) ?_; rw [World.setRow_alloc_new]))
  have HT := Aside0.mk (heap_alloc_last w1 (.cells tA 131))
  have HB := Aside0.mk (below_alloc HB1.out (.cells tA 131))
  clear HB1
  generalize w1.alloc (.cells tA 131) = wz at HT HB ⊢
  generalize w1.heap.size = g at HT HB ⊢
  go_loopw [4, 12] (fun cv kv W => ∃ (k : Nat), k ≤ n ∧ kv = .int .i64 k ∧ cv = .int .u32 (sumL l k : Nat) ∧ Aside0 (W.heap[g]? = some (.cells tA 131 (0, 0))) ∧ Aside0 (Below w.heap.size w W)) (fun _ kv _ => n - (intOf kv).toNat)
  case atStart => exact ⟨0, Nat.zero_le _, rfl, rfl, HT, HB⟩
  case round =>
    clear HT HB
    clear wz
    obtain ⟨k, hk, rfl, rfl, HT, HB⟩ := hrel
    by_cases hkn : k < n
    · obtain ⟨ad, Ar, cr, eA, xh, hle, hI⟩ := rows_at HA.out (i := k) hkn
      subst eA
      replace xh := pw_cell_below HB.out xh
      obtain ⟨m, hm⟩ : ∃ m, (row l k).length = m := ⟨_, rfl⟩
      have hm9 := HL9.out k hkn
      rw [hm] at xh hm9
      have HI := Aside0.mk hI
      have HMM := Aside0.mk hm
      have HKN := Aside0.mk hkn
      have hkd : decide ((k : Int) < (n : Int)) = true := decide_eq_true (by omega)
      have hk0 : (0 : Int) ≤ (k : Int) := by omega
      have hk1 : (k : Int) < (n : Int) := by omega
      have HS := Aside0.mk (show sumL l (k + 1) = sumN l k (sumL l k) m by show sumN l k (sumL l k) (row l k).length = _; rw [hm])
      have HCL := Aside0.mk (sumL_lt OK.out k)
      clear hI hle hm hkn hk
      generalize sumL l k = c0 at *
      go_wp2_with fail
      go_loopw [4, 18] (fun cv jv W => ∃ (j : Nat), j ≤ m ∧ jv = .int .i64 j ∧ cv = .int .u32 (sumN l k c0 j : Nat) ∧ Aside0 (W.heap[g]? = some (.cells tA 131 (0, 0))) ∧ Aside0 (Below w.heap.size w W)) (fun _ jv _ => m - (intOf jv).toNat)
      case atStart => exact ⟨0, Nat.zero_le _, rfl, rfl, HT, HB⟩
      case round =>
        clear HT HB xh
        obtain ⟨j, hj, rfl, rfl, HT, HB⟩ := hrel
        by_cases hjm : j < m
        · clear hj
          obtain ⟨ai, eI, xb⟩ := byte_at (r := row l k) HI.out (j := j) (by rw [HMM.out]; exact hjm)
          subst eI
          replace xb := pw_cell_below HB.out xb
          have hb := okB_at OK.out k j
          rw [hb.2] at xb
          have hcl := sumN_lt OK.out k c0 HCL.out j
          have HS2 := Aside0.mk (show sumN l k c0 (j + 1) = stepB (sumN l k c0 j) (byt l k j) from rfl)
          have hb1 := hb.1
          generalize sumN l k c0 j = cc at *
          generalize byt l k j = b at *
          have hdl : cc ^^^ b < 4294967296 := Nat.xor_lt_two_pow (n := 32) hcl (by omega)
          have hx0 : bits .xor .u32 (cc : Int) (b : Int) = ((cc ^^^ b : Nat) : Int) := u32_xor_nat _ _ hcl (by omega)
          have hbw : IntKind.u32.wrap (b : Int) = (b : Int) := by rw [show IntKind.u32.wrap (b : Int) = (b : Int) % 4294967296 by first | rfl | simp [IntKind.wrap]]; omega
          unfold stepB at HS2
          generalize cc ^^^ b = d at *
          have ha0 := and_low d hdl
          have hh0 := half_xor d hdl
          have x0 := tab_cell (c := d) HT.out
          have r0 : d % 16 < 16 := by omega
          generalize d % 16 = i0 at *
          generalize tT i0 = t0 at *
          have hhl := half_lt d hdl
          generalize half d = h1 at *
          have ha1 := and_low h1 hhl
          have hh1 := half_xor h1 hhl
          have x1 := tab_cell (c := h1) HT.out
          have r1 : h1 % 16 < 16 := by omega
          generalize h1 % 16 = i1 at *
          generalize tT i1 = t1 at *
          have HJM := Aside0.mk hjm
          have hjd : decide ((j : Int) < (m : Int)) = true := decide_eq_true (by omega)
          have hj0 : (0 : Int) ≤ (j : Int) := by omega
          have hj1 : (j : Int) < (m : Int) := by omega
          have hi0 : (0 : Int) ≤ (i0 : Int) := by omega
          have hi0' : (i0 : Int) < 16 := by omega
          have hi1 : (0 : Int) ≤ (i1 : Int) := by omega
          have hi1' : (i1 : Int) < 16 := by omega
          clear hb hjm hb1 hdl hhl hcl
          generalize half h1 = h2 at *
          go_wp2_with fail
          go_roundw
          case measure => simp [intOf]; have := HJM.out; omega
          case rel => exact ⟨j + 1, HJM.out, by go_num, by rw [HS2.out], HT, HB⟩
        · obtain rfl : j = m := by omega
          have hjd : decide ((j : Int) < (j : Int)) = false := decide_eq_false (by omega)
          go_wp2_with fail
          go_roundw
          case measure => simp [intOf]; have := HKN.out; omega
          case rel => exact ⟨k + 1, HKN.out, by go_num, by rw [HS.out], HT, HB⟩
    · obtain rfl : k = n := by omega
      have hkd : decide ((k : Int) < (k : Int)) = false := decide_eq_false (by omega)
      go_wp2_with fail
      go_ret
      refine ⟨?_, HB.out⟩
      show Ending.returned (.int .u32 (bits .xor .u32 IntKind.u32.max ((sumL l k : Nat) : Int))) = _
      rw [show IntKind.u32.max = ((4294967295 : Nat) : Int) from rfl, u32_xor_nat _ _ (by omega) (sumL_lt OK.out k)]
      unfold sumF
      rw [HLL.out]
end Go.Proofs.Ytjnicooboiijgaa.Sg
end

section
/-
  frame.low: a number's lowest bytes behind bytes of the call's own.
-/
set_option linter.unusedVariables false
set_option linter.unusedSimpArgs false
namespace Go.Proofs.Ytjnicooboiijgaa.Sg
open Go.RowKit Go.Proofs.YtjnicooboiijgaaW.PrintWords Go.Proofs.YtjnicooboiijgaaW.PrintLast Go.Proofs.YtjnicooboiijgaaW.PrintMore Go.Proofs.Ytjnicooboiijgaa.PSg Go.Proofs.Ytjnicooboiijgaa.Gf Go.Proofs.Ytjnicooboiijgaa.Rs
/-- The lowest n bytes of a number. -/
def lowL : Nat → Nat → List Int
  | 0, _ => []
  | n + 1, x => ((x % 256 : Nat) : Int) :: lowL n (x / 256)
theorem lowL_len : ∀ (n x : Nat), (lowL n x).length = n
  | 0, _ => rfl
  | n + 1, x => by simp only [lowL, List.length_cons, lowL_len n]
theorem lowL_snoc : ∀ (n x : Nat), lowL (n + 1) x = lowL n x ++ [((x / 256 ^ n % 256 : Nat) : Int)]
  | 0, x => by simp [lowL]
  | n + 1, x => by
    rw [lowL, lowL_snoc n (x / 256)]
    rw [show lowL (n + 1) x = ((x % 256 : Nat) : Int) :: lowL n (x / 256) from rfl, List.cons_append, Nat.div_div_eq_div_mul, show 256 * 256 ^ n = 256 ^ (n + 1) by rw [Nat.pow_succ, Nat.mul_comm]]
theorem lowL_ok (n x : Nat) : (lowL n x).all (fun a => decide (0 ≤ a) && decide (a < 256)) = true := by
  induction n generalizing x with
  | zero => rfl
  | succ n ih =>
    simp only [lowL, List.all_cons, ih, Bool.and_true, Bool.and_eq_true, decide_eq_true_eq]
    omega
set_option maxHeartbeats 4000000 in
set_option maxRecDepth 100000 in
theorem low72 (w0 w : World) (v : Value) (xs : List Int) (x n : Nat) (hx : x < 18446744073709551616) (hR : KB.R 5 w w0.heap.size (fun _ => True) v xs) (hB : Below w0.heap.size w0 w) (hn : n ≤ 1000) (hl : xs.length ≤ 1000000) :
    Calls Try.prog 72 #[v, .int .u64 x, .int .i64 n] w fun e w' => ∃ v', e = .returned v' ∧ KB.R 5 w' w0.heap.size (fun _ => True) v' (xs ++ lowL n x) ∧ Below w0.heap.size w0 w' := by
  have HR := Aside0.mk hR
  have HB := Aside0.mk hB
  have HL := Aside0.mk hl
  clear hR hB hl
  go_enter Try.func72, Try.ntmps72
  go_wp2_with fail
  go_loopw [0, 1, 8] (fun bv xv iv W => ∃ (q : Nat), q ≤ n ∧ iv = .int .i64 q ∧ xv = .int .u64 (x / 256 ^ q : Nat) ∧ Aside0 (KB.R 5 W w0.heap.size (fun _ => True) bv (xs ++ lowL q x)) ∧ Aside0 (Below w0.heap.size w0 W)) (fun _ _ iv _ => n - (intOf iv).toNat)
  case atStart => exact ⟨0, Nat.zero_le _, rfl, by simp, ⟨by rw [show lowL 0 x = [] from rfl, List.append_nil]; exact HR.out⟩, HB⟩
  case round =>
    clear HR HB
    obtain ⟨q, hq, rfl, rfl, HR, HB⟩ := hrel
    by_cases hqn : q < n
    · clear hq
      have HQ := Aside0.mk hqn
      have hyl : x / 256 ^ q < 18446744073709551616 := Nat.lt_of_le_of_lt (Nat.div_le_self _ _) hx
      have HS := Aside0.mk (show xs ++ lowL (q + 1) x = (xs ++ lowL q x) ++ [((x / 256 ^ q % 256 : Nat) : Int)] by rw [lowL_snoc q x, List.append_assoc])
      have HD := Aside0.mk (show x / 256 ^ (q + 1) = x / 256 ^ q / 256 by rw [Nat.pow_succ, Nat.div_div_eq_div_mul])
      have HLE := Aside0.mk (show (xs ++ lowL q x).length = xs.length + q by rw [List.length_append, lowL_len])
      generalize x / 256 ^ q = y at *
      generalize xs ++ lowL q x = zs at *
      have hqi : decide ((q : Int) < (n : Int)) = true := decide_eq_true (by omega)

      go_wp2_with (first
        | ((with_reducible refine gate_builtin (b := .append) (xs := #[.tmp 10, .tmp 13]) rfl ?_); at_builtin; refine Kd.R_append KB (w0 := w0) w0.heap.size rfl (.tmp 10) (.tmp 13) 37 5 (.int .u8 0) 1 rfl Try.underlying37 Go.Proofs.Ytjnicooboiijgaa.PSg.info5 rfl (by decide) (by omega) u0 zs ((y : Int) % 256) [.int .u8 ((y : Int) % 256)] (fun _ => True) (fun _ => False) rfl rfl rfl (fun _ hk => hk.elim) (fun _ _ => trivial) HR.out HB.out HB.out.size (by rw [HLE.out]; have := HL.out; have := HQ.out; omega) ?_
           intro v7 w7 ho hb hg hat
           have HR7 := Aside0.mk ho
           have HB7 := Aside0.mk hb
           clear ho hb hg hat HR HB))
      go_roundw
      case measure => simp [intOf]; have := HQ.out; omega
      case rel => exact ⟨q + 1, HQ.out, by go_num, by rw [HD.out, show ((y / 256 : Nat) : Int) = (y : Int) / 256 by omega], ⟨by rw [HS.out, show ((y % 256 : Nat) : Int) = (y : Int) % 256 by omega]; exact HR7.out⟩, HB7⟩
    · obtain rfl : q = n := by omega
      have hqi : decide ((q : Int) < (q : Int)) = false := decide_eq_false (by omega)
      go_wp2_with fail
      go_ret
      exact ⟨_, rfl, HR.out, HB.out⟩
end Go.Proofs.Ytjnicooboiijgaa.Sg
end

section
/-
  frame.Page: a page.
-/
set_option linter.unusedVariables false
set_option linter.unusedSimpArgs false
namespace Go.Proofs.Ytjnicooboiijgaa.Sg
open Go.RowKit Go.Proofs.YtjnicooboiijgaaW.PrintWords Go.Proofs.YtjnicooboiijgaaW.PrintLast Go.Proofs.YtjnicooboiijgaaW.PrintMore Go.Proofs.Ytjnicooboiijgaa.PSg Go.Proofs.Ytjnicooboiijgaa.Gf Go.Proofs.Ytjnicooboiijgaa.Rs
def roomN (sz : Nat) : Nat := if sz < 32 ∨ 65536 < sz then 0 else min (sz - 19) 65535
theorem room41 (w : World) (sz : Nat) (h1 : 32 ≤ sz) (h2 : sz ≤ 65536) : Calls Try.prog 41 #[.int .i64 sz] w fun e w' => e = .returned (.int .i64 (roomN sz : Nat)) ∧ Below w.heap.size w w' := by
  refine frame_Room.calls (sz : Int) _ w ?_
  unfold frame_Room.f roomN
  rw [if_neg (by omega), if_neg (by omega), if_neg (by omega)]
  have hw : wrap64 ((sz : Int) - 19) = ((sz - 19 : Nat) : Int) := by unfold wrap64; omega
  rw [hw]
  unfold mn
  congr 1
  split <;> omega
theorem mk4 (sz : Nat) (h : sz ≤ 65536) (h4 : 4 ≤ sz) (w : World) :
    (Instr.makeSlice 37 (.int .i64 4) (.int .i64 (sz : Int))).run Try.prog w = .ok (.slice (some ⟨w.heap.size, 0, none⟩) 4 sz) (w.alloc (.cells (byC sz fun _ => 0) 5)) := by
  obtain ⟨i, hi, h'⟩ := Option.map_eq_some_iff.1 Go.Proofs.Ytjnicooboiijgaa.PSg.info5
  simp only [Prod.mk.injEq] at h'
  obtain ⟨h0, h1, h2⟩ := h'
  have := run_make_rowN (P := Try.prog) 37 5 i (.int .u8 0) Try.underlying37 hi h0 .i64 .i64 4 sz h4 (by rw [h2]; omega) (by omega) w
  rw [show ((4 : Nat) : Int) = 4 from rfl] at this
  rw [this, h1, Nat.mul_one]
  show Result.ok _ (w.alloc (.cells (madeCells #[_] sz) 5)) = _
  rw [madeCells_one]
  simp [byC]
theorem mk4_R (w : World) (sz : Nat) (h : sz ≤ 65536) (h4 : 4 ≤ sz) : KB.R 5 (w.alloc (.cells (byC sz fun _ => 0) 5)) w.heap.size (fun _ => True) (.slice (some ⟨w.heap.size, 0, none⟩) 4 sz) [0, 0, 0, 0] := by
  refine Kd.R_of_own ⟨?_, .inr ⟨w.heap.size, sz, byC sz fun _ => 0, ?_, Nat.le_refl _, heap_alloc_last _ _, ?_, ?_, ?_, ?_⟩⟩ ?_
  · simp [encs]
  · simp
  · simp; omega
  · unfold maxLen; omega
  · simp [byC]
  · apply List.ext_getElem
    · simp [byC, encs]; omega
    · intro i h1 h2
      have h3 : i < 4 := by simpa [encs] using h2
      have : i = 0 ∨ i = 1 ∨ i = 2 ∨ i = 3 := by omega
      rcases this with rfl | rfl | rfl | rfl <;> simp [byC, encs]
  · intro k _; trivial
theorem KR_of {w : World} {b n : Nat} {cs : Array Value} {l : List (List Int)} (hb : w.heap[b]? = some (.cells cs 37 (0, 0))) (hl : l.length = n) (hn : n ≤ 1000000000)
    (h : ∀ j, j < n → ∃ A c', cs[j]? = some (.slice A (row l j).length c') ∧ (row l j).length ≤ c' ∧ KB.C w A (row l j).length (row l j)) : KR.C w (some ⟨b, 0, none⟩) n l := by
  refine ⟨hl, by omega, fun _ => ⟨_, rfl, fun j p hj => ?_⟩⟩
  obtain ⟨hjl, hp⟩ := List.getElem?_eq_some_iff.1 hj
  have e : row l j = p := by unfold row; rw [List.getD_eq_getElem?_getD, hj]; rfl
  obtain ⟨A, c', h1, h2, h3⟩ := h j (by omega)
  rw [e] at h1 h2 h3
  refine ⟨[.slice A p.length c'], rfl, ⟨A, c', rfl, h2, h3⟩, fun i u hu => ?_⟩
  cases i with
  | zero =>
    obtain rfl : Value.slice A p.length c' = u := by simpa using hu
    rw [show j * KR.sz + 0 = j by simp [KR, Kd.slice], Addr.add_mid, Nat.zero_add, cell_of_row w b j _ 37 (0, 0) hb]
    exact h1
  | succ i => simp at hu
/-- A page's bytes behind its sum. -/
def bodyL (sz seg row shard : Nat) (pl : List Int) : List Int := lowL 8 seg ++ lowL 4 row ++ lowL 1 shard ++ lowL 2 pl.length ++ pl ++ List.replicate (sz - 19 - pl.length) 0
def pageL (sz seg row shard : Nat) (pl : List Int) : List Int := lowL 4 (sumF [bodyL sz seg row shard pl]) ++ bodyL sz seg row shard pl
theorem bodyL_len {sz seg row shard : Nat} {pl : List Int} (h : pl.length ≤ sz - 19) (h1 : 32 ≤ sz) : (bodyL sz seg row shard pl).length = sz - 4 := by
  unfold bodyL
  simp only [List.length_append, lowL_len, List.length_replicate]
  omega
theorem bodyL_ok {sz seg row shard : Nat} {pl : List Int} (h : pl.all (fun a => decide (0 ≤ a) && decide (a < 256)) = true) : okB [bodyL sz seg row shard pl] = true := by
  unfold okB bodyL
  have hz : (List.replicate (sz - 19 - pl.length) (0 : Int)).all (fun a => decide (0 ≤ a) && decide (a < 256)) = true := by
    rw [List.all_eq_true]
    intro x hx
    rw [List.eq_of_mem_replicate hx]
    rfl
  simp only [List.all_cons, List.all_nil, List.all_append, lowL_ok, h, hz, Bool.and_self]
theorem sumF_lt {l : List (List Int)} (ok : okB l = true) : sumF l < 4294967296 := Nat.xor_lt_two_pow (n := 32) (by omega) (sumL_lt ok _)
theorem drop_C {W : World} {d c n : Nat} {xs : List Int} (h : KB.C W (some ⟨d, 0, none⟩) n xs) (m : Nat) (hm : m ≤ n) (hc : n ≤ c) (hne : m < c) : KB.C W (some ⟨d, m, none⟩) (n - m) (xs.drop m) := by
  have hl : xs.length = n := Kd.C_len h
  have h2 := Kd.C_drop (k := KB) (m := m) (c := c) (by rw [hl]; exact h) (by omega) (by omega)
  rw [if_neg (by omega), List.length_drop, hl] at h2
  rw [show Option.map (fun x => x.add (m * KB.sz)) (some (⟨d, 0, none⟩ : Addr)) = some ⟨d, m, none⟩ by rw [show m * KB.sz = m from Nat.mul_one m, Option.map_some, Addr.add_mid, Nat.zero_add]] at h2
  exact h2
def page60.T5 : Bool × List (List Nat × List Nat) := (true, [([], []), ([0], [0]), ([], []), ([2], [2]), ([1, 3], [1, 3]), ([], []), ([5], [5]), ([6], [6]), ([4, 7, 4], [4, 7]), ([], []), ([9], [9]), ([10], [10]), ([8, 11, 8], [8, 11]), ([], []), ([13], [13]), ([14], [14]), ([12, 15, 12], [12, 15]), ([16, 16, 0, 1, 2, 3, 4, 5, 6, 7, 8, 9, 10, 11, 12, 13, 14, 15, 16], [16])])
def page60.B5 : List Nat := [0, 1, 0, 4, 15, 0, 32, 96, 255, 0, 512, 1536, 4095, 0, 8192, 24576, 65535, 131071]
theorem page60.tab5 : rtab .any (opsOf Try.f60 5) = page60.T5 := by kernel_rfl
theorem page60.bits5 : waitsOk page60.T5.2 page60.B5 = true := by kernel_rfl
set_option maxHeartbeats 8000000 in
set_option maxRecDepth 100000 in
theorem page60_ok (w : World) (sz seg row shard n cp : Nat) (z : Int) (A : Option Addr) (pl : List Int) (hA : KB.C w A n pl) (hpl : pl.all (fun a => decide (0 ≤ a) && decide (a < 256)) = true) (h1 : 32 ≤ sz) (h2 : sz ≤ 65536) (hseg : seg < 18446744073709551616) (hrow : row ≤ 1073741824) (hsh : shard ≤ 255) (hn : n ≤ roomN sz) :
    Calls Try.prog 60 #[.int .i64 sz, .agg #[.int .u64 seg, .int .i64 row, .int .i64 shard, .int .i64 z], .slice A n cp] w fun e w' => ∃ d c, e = .returned (.tuple #[.slice (some ⟨d, 0, none⟩) sz c, .int .i64 0]) ∧ sz ≤ c ∧ KB.R 5 w' w.heap.size (fun _ => True) (.slice (some ⟨d, 0, none⟩) sz c) (pageL sz seg row shard pl) ∧ Below w.heap.size w w' := by
  have HR := Aside0.mk (fun (W : World) => room41 W sz h1 h2)
  have HOK := Aside0.mk (bodyL_ok (sz := sz) (seg := seg) (row := row) (shard := shard) hpl)
  have HSF := Aside0.mk (sumF_lt HOK.out)
  have HPL0 := Aside0.mk (show pl.length = n from Kd.C_len hA)
  clear hpl
  obtain ⟨rm, hrm⟩ : ∃ rm, roomN sz = rm := ⟨_, rfl⟩
  have hrm0 : rm ≠ 0 := by rw [← hrm]; unfold roomN; rw [if_neg (by omega)]; omega
  have hrm1 : rm ≤ sz - 19 := by rw [← hrm]; unfold roomN; rw [if_neg (by omega)]; omega
  rw [hrm] at hn HR
  have HA := Aside0.mk hA
  have c1 : ((rm : Int) == 0) = false := beq_eq_false_iff_ne.mpr (by omega)
  have c2 : decide ((row : Int) < 0) = false := decide_eq_false (by omega)
  have c3 : decide ((1073741824 : Int) < (row : Int)) = false := decide_eq_false (by omega)
  have c4 : decide ((shard : Int) < 0) = false := decide_eq_false (by omega)
  have c5 : decide ((255 : Int) < (shard : Int)) = false := decide_eq_false (by omega)
  have c6 : decide ((rm : Int) < (n : Int)) = false := decide_eq_false (by omega)
  have c7 : ¬ rm < n := by omega
  have HH := Aside0.mk (heap_alloc_last w (.cells #[.int .u64 seg, .int .i64 row, .int .i64 shard, .int .i64 z] 108))
  have HB := Aside0.mk (below_alloc (Below.refl w.heap.size w) (.cells #[.int .u64 seg, .int .i64 row, .int .i64 shard, .int .i64 z] 108))
  have HN := Aside0.mk (show n ≤ sz - 19 by omega)
  clear hA hrm hrm1
  go_enter Try.func60, Try.ntmps60
  go_wp2_with (first
    | (go_at_call 41; refine Calls.mono (HR.out _) ?_; rintro e w1 ⟨rfl, hb⟩; replace HH := Aside0.mk ((hb.block _ (heap_lt HH.out)).trans HH.out); replace HB := Aside0.mk (below_then HB.out HB.out.size hb); have y0 := (cell_of_row _ _ 0 _ 108 (0, 0) HH.out); have y1 := (cell_of_row _ _ 1 _ 108 (0, 0) HH.out); have y2 := (cell_of_row _ _ 2 _ 108 (0, 0) HH.out); simp only [List.getElem?_toArray, List.getElem?_cons_zero, List.getElem?_cons_succ] at y0 y1 y2; clear hb))
  have hmk := mk4 sz h2 (by omega)
  have hn9 : n ≤ 65536 := by have := HN.out; omega
  have u1 : IntKind.u64.wrap (row : Int) = (row : Int) := by rw [show IntKind.u64.wrap (row : Int) = (row : Int) % 18446744073709551616 by first | rfl | simp [IntKind.wrap]]; omega
  have u2 : IntKind.u64.wrap (shard : Int) = (shard : Int) := by rw [show IntKind.u64.wrap (shard : Int) = (shard : Int) % 18446744073709551616 by first | rfl | simp [IntKind.wrap]]; omega
  have u3 : IntKind.u64.wrap (n : Int) = (n : Int) := by rw [show IntKind.u64.wrap (n : Int) = (n : Int) % 18446744073709551616 by first | rfl | simp [IntKind.wrap]]; omega
  have HL1 := Aside0.mk (low72 w1.drew (w1.drew.alloc (.cells (byC sz fun _ => 0) 5)) (.slice (some ⟨w1.heap.size, 0, none⟩) 4 sz) [0, 0, 0, 0] seg 8 hseg (mk4_R w1.drew sz h2 (by omega)) (below_alloc (Below.refl _ _) _) (by omega) (by simp))
  refine start_ (n := 18) (S := fun w' => w'.cell? ⟨w.heap.size, 0, none⟩ = some (.int .u64 (seg : Nat)) ∧ w'.cell? ⟨w.heap.size, 1, none⟩ = some (.int .i64 (row : Nat)) ∧ w'.cell? ⟨w.heap.size, 2, none⟩ = some (.int .i64 (shard : Nat))) (ds := []) #[false, false, false, false, false, false, false, false, false, false, false, false, false, false, false, false, false, false] (by kernel_rfl) rfl rfl ⟨y0, y1, y2⟩ (fun hHeld => ?_)
  refine with_tabW page60.tab5 page60.bits5 (fun HT_ HW_ => ?_)
  refine pure_ (i := 0) (N := some 39) (v := ?_) (a' := ?_) #[true, false, false, false, false, false, false, false, false, false, false, false, false, false, false, false, false, false] rfl rfl (any_of HT_.out (by kernel_rfl)) (fun _ _ _ h => h) (Or.inl ⟨by rfl, ?_⟩) ?_ ?_
  rotate_left
  · intro w'
    go_simp
    with_reducible rfl
  rotate_left
  · simp only [Act.put, List.setIfInBounds_toArray, List.set_cons_zero, List.set_cons_succ, i64_w, i32_w]
    rfl
  refine pure_ (i := 2) (N := some 41) (v := ?_) (a' := ?_) #[true, false, true, false, false, false, false, false, false, false, false, false, false, false, false, false, false, false] rfl rfl (any_of HT_.out (by kernel_rfl)) (fun _ _ _ h => h) (Or.inl ⟨by rfl, ?_⟩) ?_ ?_
  rotate_left
  · intro w'
    go_simp
    with_reducible rfl
  rotate_left
  · simp only [Act.put, List.setIfInBounds_toArray, List.set_cons_zero, List.set_cons_succ, i64_w, i32_w]
    rfl
  refine pure_ (i := 5) (N := some 44) (v := ?_) (a' := ?_) #[true, false, true, false, false, true, false, false, false, false, false, false, false, false, false, false, false, false] rfl rfl (any_of HT_.out (by kernel_rfl)) (fun _ _ _ h => h) (Or.inl ⟨by rfl, ?_⟩) ?_ ?_
  rotate_left
  · intro w'
    go_simp
    with_reducible rfl
  rotate_left
  · simp only [Act.put, List.setIfInBounds_toArray, List.set_cons_zero, List.set_cons_succ, i64_w, i32_w]
    rfl
  refine pure_ (i := 9) (N := some 48) (v := ?_) (a' := ?_) #[true, false, true, false, false, true, false, false, false, true, false, false, false, false, false, false, false, false] rfl rfl (any_of HT_.out (by kernel_rfl)) (fun _ _ _ h => h) (Or.inl ⟨by rfl, ?_⟩) ?_ ?_
  rotate_left
  · intro w'
    go_simp
    with_reducible rfl
  rotate_left
  · simp only [Act.put, List.setIfInBounds_toArray, List.set_cons_zero, List.set_cons_succ, i64_w, i32_w]
    rfl
  refine pure_ (i := 13) (N := some 52) (v := ?_) (a' := ?_) #[true, false, true, false, false, true, false, false, false, true, false, false, false, true, false, false, false, false] rfl rfl (any_of HT_.out (by kernel_rfl)) (fun _ _ _ h => h) (Or.inl ⟨by rfl, ?_⟩) ?_ ?_
  rotate_left
  · intro w'
    go_simp
    with_reducible rfl
  rotate_left
  · simp only [Act.put, List.setIfInBounds_toArray, List.set_cons_zero, List.set_cons_succ, i64_w, i32_w]
    rfl
  refine pure_ (i := 14) (N := some 53) (v := ?_) (a' := ?_) #[true, false, true, false, false, true, false, false, false, true, false, false, false, true, true, false, false, false] rfl rfl (any_of HT_.out (by kernel_rfl)) (fun _ _ _ h => h) (Or.inl ⟨by rfl, ?_⟩) ?_ ?_
  rotate_left
  · intro w'
    go_simp
    with_reducible rfl
  rotate_left
  · simp only [Act.put, List.setIfInBounds_toArray, List.set_cons_zero, List.set_cons_succ, i64_w, i32_w]
    rfl
  refine pure_ (i := 15) (N := some 54) (v := ?_) (a' := ?_) #[true, false, true, false, false, true, false, false, false, true, false, false, false, true, true, true, false, false] rfl rfl (any_of HT_.out (by kernel_rfl)) (fun _ _ _ h => h) (Or.inl ⟨by rfl, ?_⟩) ?_ ?_
  rotate_left
  · intro w'
    go_simp
    with_reducible rfl
  rotate_left
  · simp only [Act.put, List.setIfInBounds_toArray, List.set_cons_zero, List.set_cons_succ, i64_w, i32_w]
    rfl
  refine take_ (i := 3) (N := some 42) (v := ?_) (a' := ?_) #[true, false, true, true, false, true, false, false, false, true, false, false, false, true, true, true, false, false] rfl rfl (take_ofW HT_.out HW_.out (by kernel_rfl)) (fun _ _ _ h => h) (Or.inl ⟨by rfl, ?_⟩) hHeld ?_ ?_
  rotate_left
  · rintro w' ⟨s0, s1, s2⟩
    go_simp
    with_reducible rfl
  rotate_left
  · simp only [Act.put, List.setIfInBounds_toArray, List.set_cons_zero, List.set_cons_succ, i64_w, i32_w]
    rfl
  refine take_ (i := 6) (N := some 45) (v := ?_) (a' := ?_) #[true, false, true, true, false, true, true, false, false, true, false, false, false, true, true, true, false, false] rfl rfl (take_ofW HT_.out HW_.out (by kernel_rfl)) (fun _ _ _ h => h) (Or.inl ⟨by rfl, ?_⟩) hHeld ?_ ?_
  rotate_left
  · rintro w' ⟨s0, s1, s2⟩
    go_simp
    with_reducible rfl
  rotate_left
  · simp only [Act.put, List.setIfInBounds_toArray, List.set_cons_zero, List.set_cons_succ, i64_w, i32_w]
    rfl
  refine pure_ (i := 7) (N := some 46) (v := ?_) (a' := ?_) #[true, false, true, true, false, true, true, true, false, true, false, false, false, true, true, true, false, false] rfl rfl (any_of HT_.out (by kernel_rfl)) (fun _ _ _ h => h) (Or.inl ⟨by rfl, ?_⟩) ?_ ?_
  rotate_left
  · intro w'
    go_simp
    with_reducible rfl
  rotate_left
  · simp only [Act.put, List.setIfInBounds_toArray, List.set_cons_zero, List.set_cons_succ, i64_w, i32_w]
    rfl
  refine take_ (i := 10) (N := some 49) (v := ?_) (a' := ?_) #[true, false, true, true, false, true, true, true, false, true, true, false, false, true, true, true, false, false] rfl rfl (take_ofW HT_.out HW_.out (by kernel_rfl)) (fun _ _ _ h => h) (Or.inl ⟨by rfl, ?_⟩) hHeld ?_ ?_
  rotate_left
  · rintro w' ⟨s0, s1, s2⟩
    go_simp
    with_reducible rfl
  rotate_left
  · simp only [Act.put, List.setIfInBounds_toArray, List.set_cons_zero, List.set_cons_succ, i64_w, i32_w]
    rfl
  refine pure_ (i := 11) (N := some 50) (v := ?_) (a' := ?_) #[true, false, true, true, false, true, true, true, false, true, true, true, false, true, true, true, false, false] rfl rfl (any_of HT_.out (by kernel_rfl)) (fun _ _ _ h => h) (Or.inl ⟨by rfl, ?_⟩) ?_ ?_
  rotate_left
  · intro w'
    go_simp
    with_reducible rfl
  rotate_left
  · simp only [Act.put, List.setIfInBounds_toArray, List.set_cons_zero, List.set_cons_succ, i64_w, i32_w]
    rfl
  refine one_ (i := 1) (N := some 40) #[true, true, true, true, false, true, true, true, false, true, true, true, false, true, true, true, false, false] rfl rfl (one_of HT_.out (by kernel_rfl)) (by decide) (fun K hK => ?_)
  refine value_ (w1 := ?_) (v := ?_) (by rfl) rfl ?_ ?_
  rotate_left 2
  · go_simp
    constructor
    · rfl
    · rfl
  refine hK.out _ _ ⟨pw_cell_below (below1 _ _) hHeld.1, pw_cell_below (below1 _ _) hHeld.2.1, pw_cell_below (below1 _ _) hHeld.2.2⟩ (fun hHeld => ?_)
  clear hK K
  refine norm_ (a' := ?_) ?_ ?_
  rotate_left
  · show Act.put _ (some 40) _ = _
    simp only [Act.put, List.setIfInBounds_toArray, List.set_cons_zero, List.set_cons_succ, i64_w, i32_w]
    rfl
  refine one_ (i := 4) (N := some 43) #[true, true, true, true, true, true, true, true, false, true, true, true, false, true, true, true, false, false] rfl rfl (one_of HT_.out (by kernel_rfl)) (by decide) (fun K hK => ?_)
  refine goes_ Try.func72 (by kernel_rfl) rfl #[.slice (some ⟨w1.heap.size, 0, none⟩) 4 sz, .int .u64 (seg : Nat), .int .i64 (8 : Nat)] (by rfl) rfl rfl (by simp only [List.map_toArray, List.map_cons, List.map_nil]; rfl) ?_
  refine Calls.mono (HL1.out) ?_
  rintro e w4 ⟨v4, rfl, hr4, hb4⟩
  refine ⟨_, rfl, ?_⟩
  refine hK.out _ _ ⟨pw_cell_below hb4 y0, pw_cell_below hb4 y1, pw_cell_below hb4 y2⟩ (fun hHeld => ?_)
  clear hK K
  refine norm_ (a' := ?_) ?_ ?_
  rotate_left
  · show Act.put _ (some 43) _ = _
    simp only [Act.put, List.setIfInBounds_toArray, List.set_cons_zero, List.set_cons_succ, i64_w, i32_w]
    rfl
  refine one_ (i := 8) (N := some 47) #[true, true, true, true, true, true, true, true, true, true, true, true, false, true, true, true, false, false] rfl rfl (one_of HT_.out (by kernel_rfl)) (by decide) (fun K hK => ?_)
  refine goes_ Try.func72 (by kernel_rfl) rfl #[v4, .int .u64 (row : Nat), .int .i64 (4 : Nat)] (by rfl) rfl rfl (by simp only [List.map_toArray, List.map_cons, List.map_nil]; rfl) ?_
  refine Calls.mono (low72 w1.drew w4 v4 _ row 4 (by omega) hr4 hb4 (by omega) (by simp [lowL_len])) ?_
  rintro e w8 ⟨v8, rfl, hr8, hb8⟩
  refine ⟨_, rfl, ?_⟩
  refine hK.out _ _ ⟨pw_cell_below hb8 y0, pw_cell_below hb8 y1, pw_cell_below hb8 y2⟩ (fun hHeld => ?_)
  clear hK K
  refine norm_ (a' := ?_) ?_ ?_
  rotate_left
  · show Act.put _ (some 47) _ = _
    simp only [Act.put, List.setIfInBounds_toArray, List.set_cons_zero, List.set_cons_succ, i64_w, i32_w]
    rfl
  refine one_ (i := 12) (N := some 51) #[true, true, true, true, true, true, true, true, true, true, true, true, true, true, true, true, false, false] rfl rfl (one_of HT_.out (by kernel_rfl)) (by decide) (fun K hK => ?_)
  refine goes_ Try.func72 (by kernel_rfl) rfl #[v8, .int .u64 (shard : Nat), .int .i64 (1 : Nat)] (by rfl) rfl rfl (by simp only [List.map_toArray, List.map_cons, List.map_nil]; rfl) ?_
  refine Calls.mono (low72 w1.drew w8 v8 _ shard 1 (by omega) hr8 hb8 (by omega) (by simp [lowL_len])) ?_
  rintro e w12 ⟨v12, rfl, hr12, hb12⟩
  refine ⟨_, rfl, ?_⟩
  refine hK.out _ _ ⟨pw_cell_below hb12 y0, pw_cell_below hb12 y1, pw_cell_below hb12 y2⟩ (fun hHeld => ?_)
  clear hK K
  refine norm_ (a' := ?_) ?_ ?_
  rotate_left
  · show Act.put _ (some 51) _ = _
    simp only [Act.put, List.setIfInBounds_toArray, List.set_cons_zero, List.set_cons_succ, i64_w, i32_w]
    rfl
  refine one_ (i := 16) (N := some 55) #[true, true, true, true, true, true, true, true, true, true, true, true, true, true, true, true, true, false] rfl rfl (one_of HT_.out (by kernel_rfl)) (by decide) (fun K hK => ?_)
  refine goes_ Try.func72 (by kernel_rfl) rfl #[v12, .int .u64 (n : Nat), .int .i64 (2 : Nat)] (by rfl) rfl rfl (by simp only [List.map_toArray, List.map_cons, List.map_nil]; rfl) ?_
  refine Calls.mono (low72 w1.drew w12 v12 _ n 2 (by omega) hr12 hb12 (by omega) (by simp [lowL_len])) ?_
  rintro e w16 ⟨v16, rfl, hr16, hb16⟩
  refine ⟨_, rfl, ?_⟩
  refine hK.out _ _ ⟨pw_cell_below hb16 y0, pw_cell_below hb16 y1, pw_cell_below hb16 y2⟩ (fun hHeld => ?_)
  clear hK K
  refine norm_ (a' := ?_) ?_ ?_
  rotate_left
  · show Act.put _ (some 55) _ = _
    simp only [Act.put, List.setIfInBounds_toArray, List.set_cons_zero, List.set_cons_succ, i64_w, i32_w]
    rfl
  refine pure_ (i := 17) (N := some 8) (v := ?_) (a' := ?_) #[true, true, true, true, true, true, true, true, true, true, true, true, true, true, true, true, true, true] rfl rfl (any_of HT_.out (by kernel_rfl)) (fun _ _ _ h => h) (Or.inl ⟨by rfl, ?_⟩) ?_ ?_
  rotate_left
  · intro w'
    go_simp
    with_reducible rfl
  rotate_left
  · simp only [Act.put, List.setIfInBounds_toArray, List.set_cons_zero, List.set_cons_succ, i64_w, i32_w]
    rfl
  refine done_ (done_of HT_.out (by kernel_rfl)) ?_
  have hbd : Below w.heap.size w w1.drew := below_drew HB.out
  have HBw := Aside0.mk (below_then hbd hbd.size hb16 : Below w.heap.size w w16)
  have HR16 := Aside0.mk hr16
  have HB16 := Aside0.mk hb16
  have HA16 := Aside0.mk (Kd.C_below HA.out HBw.out)
  have HPL := Aside0.mk (show pl.length = n from Kd.C_len HA.out)
  generalize hXS : [0, 0, 0, 0] ++ lowL 8 seg ++ lowL 4 row ++ lowL 1 shard ++ lowL 2 n = XS at HR16
  have HXL := Aside0.mk (show XS.length = 19 by rw [← hXS]; simp [lowL_len])
  have HXS := Aside0.mk hXS
  clear hXS hr4 hr8 hr12 hr16 hb4 hb8 hb12 hb16 hHeld
  go_wp2_with (first
    | ((with_reducible refine gate_builtin (b := .append) (xs := #[.tmp 56, .tmp 57]) rfl ?_); refine Kd.R_append_rows KB (w0 := w1.drew) w1.drew.heap.size rfl (.tmp 56) (.tmp 57) 37 5 (.int .u8 0) 1 rfl Try.underlying37 Go.Proofs.Ytjnicooboiijgaa.PSg.info5 rfl (by decide) (by omega) v16 XS pl _ _ _ (fun _ => True) (fun _ => False) rfl rfl HR16.out HA16.out (fun _ _ h => h) (fun _ h => h.elim) (fun _ _ => trivial) HB16.out HB16.out.size (by rw [HXL.out]; omega) ?_
       intro v17 w17 ho hb hg hat
       obtain ⟨d17, c17, ev, _, _⟩ := Kd.R_form ho (by rw [List.length_append, HXL.out]; omega)
       rw [List.length_append, HXL.out, HPL.out] at ev
       subst ev
       have HR17 := Aside0.mk ho
       have HB17 := Aside0.mk hb
       have hsb : ((sz : Int) - ((19 + n : Nat) : Int)) = ((sz - 19 - n : Nat) : Int) := by have := HN.out; omega
       have hsw : wrap64 ((sz : Int) - (19 + (n : Int))) = ((sz - 19 - n : Nat) : Int) := by have := HN.out; unfold wrap64; omega
       clear ho hb hg hat HR16 HB16)
    | ((with_reducible refine gate_builtin (b := .append) (xs := #[.tmp 59, .tmp 63]) rfl ?_); refine Kd.R_append_zeros KB (w0 := w1.drew) w1.drew.heap.size rfl (.tmp 59) (.tmp 63) 37 3 5 (.int .u8 0) 1 rfl Try.underlying37 Try.underlying3 Go.Proofs.Ytjnicooboiijgaa.PSg.info5 rfl (by decide) (by omega) (.slice (some ⟨d17, 0, none⟩) (19 + n) c17) (XS ++ pl) 0 _ (fun _ => True) rfl rfl rfl (fun _ _ => trivial) HR17.out (by have := HN.out; omega) HB17.out HB17.out.size (by rw [List.length_append, HXL.out, HPL.out]; have := HN.out; omega) ?_))
  intro v18 w18 ho hb hg hat
  have hrep : (XS ++ (pl ++ List.replicate ((sz : Int) - (19 + (n : Int))).toNat 0)) = [0, 0, 0, 0] ++ bodyL sz seg row shard pl := by
    rw [show ((sz : Int) - (19 + (n : Int))).toNat = sz - 19 - pl.length by rw [HPL.out]; omega, ← HXS.out]
    unfold bodyL
    rw [HPL.out]
    simp only [List.append_assoc]
  rw [hrep] at ho
  have hbl : (bodyL sz seg row shard pl).length = sz - 4 := bodyL_len (by rw [HPL.out]; exact HN.out) h1
  have hBL : ([0, 0, 0, 0] ++ bodyL sz seg row shard pl).length = sz := by rw [List.length_append, hbl]; simp; omega
  obtain ⟨d18, c18, ev, _, _⟩ := Kd.R_form ho (by rw [hBL]; omega)
  rw [hBL] at ev
  subst ev
  obtain ⟨_, _, ev, hc18, hC18⟩ := Kd.R_reads ho
  rw [hBL] at ev hc18 hC18
  injection ev with ev _ ev2
  subst ev
  subst ev2
  have HR18 := Aside0.mk ho
  have HB18 := Aside0.mk hb
  have HC18 := Aside0.mk hc18
  have hd18 := drop_C hC18 4 (by omega) hc18 (by omega)
  have hdr : List.drop 4 ([0, 0, 0, 0] ++ bodyL sz seg row shard pl : List Int) = bodyL sz seg row shard pl := rfl
  rw [hdr] at hd18
  have HK18 := Aside0.mk (KR_of (n := 1) (l := [bodyL sz seg row shard pl]) (heap_alloc_last w18 (.cells #[.slice (some ⟨d18, 4, none⟩) (sz - 4) (c18 - 4)] 37)) rfl (by omega) (fun j hj => by
    obtain rfl : j = 0 := by omega
    rw [show Gf.row [bodyL sz seg row shard pl] 0 = bodyL sz seg row shard pl from rfl, hbl]
    exact ⟨_, _, rfl, by omega, Kd.C_below hd18 (below_alloc (Below.refl _ _) _)⟩))
  have HBL := Aside0.mk hbl
  have hk4 : ¬ c18 = 4 := by omega
  have hk5 : (4 : Int) ≤ (sz : Int) := by omega
  have hk6 : (sz : Int) ≤ (c18 : Int) := by omega
  clear ho hb hg hat hrep hbl hBL hC18 hd18 hc18 HR17 HB17
  obtain ⟨sm, hsm⟩ : ∃ sm, sumF [bodyL sz seg row shard pl] = sm := ⟨_, rfl⟩
  have HSM := Aside0.mk hsm
  have hsl : sm < 4294967296 := by rw [← hsm]; exact HSF.out
  have u4 : IntKind.u64.wrap (sm : Int) = (sm : Int) := by rw [show IntKind.u64.wrap (sm : Int) = (sm : Int) % 18446744073709551616 by first | rfl | simp [IntKind.wrap]]; omega
  clear hsm
  go_wp2_with (first
    | (go_at_call 73; refine Calls.mono (sum73 _ _ 1 1 _ HK18.out HOK.out (by omega) (fun i hi => by obtain rfl : i = 0 := (by omega); show (bodyL sz seg row shard pl).length ≤ 1000000; rw [HBL.out]; omega)) ?_; rintro e w20 ⟨he, hb⟩
       rw [HSM.out] at he
       subst he
       have hba := below_alloc (Below.refl w18.heap.size w18) (.cells #[.slice (some ⟨d18, 4, none⟩) (sz - 4) (c18 - 4)] 37)
       have hb20 := below_then hba hba.size hb
       have HB20 := Aside0.mk (below_then HB18.out HB18.out.size hb20)
       have HR20 := Aside0.mk (Kd.R_below HR18.out hb20)
       clear hba hb20 hb HB18 HR18 HK18)
    | (go_at_call 72; refine Calls.mono (low72 w20 w20 (.slice none 0 0) [] sm 4 (by omega) (Kd.R_nil _ _ _ _ _) (Below.refl _ _) (by omega) (by simp)) ?_; rintro e w21 ⟨v21, rfl, hr, hb⟩
       rw [List.nil_append] at hr
       obtain ⟨A21, c21, ev, _, hC⟩ := Kd.R_reads hr
       rw [lowL_len] at ev hC
       subst ev
       have HC21 := Aside0.mk hC
       have HB21 := Aside0.mk (below_then HB20.out HB20.out.size hb)
       have HR21 := Aside0.mk (Kd.R_below HR20.out hb)
       clear hr hC hb HB20 HR20)
    | ((with_reducible refine gate_builtin (b := .copy) (xs := #[.tmp 65, .tmp 71]) rfl ?_); refine Kd.R_copy (enc := Value.int .u8) (h1 := fun _ => rfl) (0 : Int) (w0 := w1.drew) w1.drew.heap.size rfl (.tmp 65) (.tmp 71) 37 37 5 rfl Try.underlying37 (by kernel_rfl) (.slice (some ⟨d18, 0, none⟩) sz c18) ([0, 0, 0, 0] ++ bodyL sz seg row shard pl) (lowL 4 sm) A21 4 c21 (fun _ => True) rfl rfl HR21.out HC21.out HB21.out HB21.out.size ?_))
  intro w22 ho hb hg
  rw [List.take_of_length_le (by rw [lowL_len]; exact Nat.le_refl _)] at ho
  have hpg : lowL 4 sm ++ bodyL sz seg row shard pl = pageL sz seg row shard pl := by unfold pageL; rw [HSM.out]
  rw [hpg] at ho
  have HR22 := Aside0.mk (Kd.R_lower ho hbd.size)
  have HB22 := Aside0.mk (below_then hbd hbd.size hb)
  clear ho hb hg hpg HR21 HB21 HC21
  go_wp2_with fail
  go_ret2
  exact ⟨d18, c18, rfl, HC18.out, HR22.out, HB22.out⟩
end Go.Proofs.Ytjnicooboiijgaa.Sg
end

section
/-
  Rows as headers; rows of the call's own.
-/
set_option linter.unusedVariables false
set_option linter.unusedSimpArgs false
namespace Go.Proofs.Ytjnicooboiijgaa.Rs
open Go.RowKit Go.Proofs.YtjnicooboiijgaaW.PrintWords Go.Proofs.YtjnicooboiijgaaW.PrintLast Go.Proofs.YtjnicooboiijgaaW.PrintMore Go.Proofs.Ytjnicooboiijgaa.PSg Go.Proofs.Ytjnicooboiijgaa.Gf
/-- A row's header: where it lies, how long it is, its room. -/
abbrev Hd := Option Addr × Nat × Nat
def KH : Kd Hd := Kd.scalar (fun x => Value.slice x.1 x.2.1 x.2.2) (fun _ => rfl)
/-- The headers' rows. -/
def Rows (W : World) (hs : List Hd) (l : List (List Int)) : Prop := hs.length = l.length ∧ ∀ (i : Nat) (x : Hd), hs[i]? = some x → x.2.1 = (row l i).length ∧ x.2.1 ≤ x.2.2 ∧ KB.C W x.1 x.2.1 (row l i)
theorem Rows.below {W W1 : World} {hs : List Hd} {l : List (List Int)} (h : Rows W hs l) (hb : Below W.heap.size W W1) : Rows W1 hs l := ⟨h.1, fun i x hx => ⟨(h.2 i x hx).1, (h.2 i x hx).2.1, Kd.C_below (h.2 i x hx).2.2 hb⟩⟩
theorem KR_of_KH {W : World} {A : Option Addr} {n : Nat} {hs : List Hd} {l : List (List Int)} (h : KH.C W A n hs) (hr : Rows W hs l) : KR.C W A n l := by
  obtain ⟨h1, h2, h3⟩ := h
  refine ⟨by rw [← hr.1]; exact h1, h2, fun hn => ?_⟩
  obtain ⟨ad, e, hc⟩ := h3 hn
  refine ⟨ad, e, fun j p hj => ?_⟩
  obtain ⟨hjl, hp⟩ := List.getElem?_eq_some_iff.1 hj
  have hjh : j < hs.length := by rw [hr.1]; exact hjl
  obtain ⟨c, hs1, hs2, hs3⟩ := hc j _ (List.getElem?_eq_getElem hjh)
  have he : row l j = p := by unfold row; rw [List.getD_eq_getElem?_getD, hj]; rfl
  obtain ⟨q1, q2, q3⟩ := hr.2 j _ (List.getElem?_eq_getElem hjh)
  rw [he] at q1 q3
  have hc2 : c = [Value.slice hs[j].1 hs[j].2.1 hs[j].2.2] := hs2
  refine ⟨c, hs1, ⟨hs[j].1, hs[j].2.2, ?_, by rw [← q1]; exact q2, by rw [← q1]; exact q3⟩, hs3⟩
  rw [hc2, q1]
structure OwnM (W : World) (base : Nat) (hs : List Hd) (l : List (List Int)) : Prop where
  len : hs.length = l.length
  rows : ∀ (i : Nat) (x : Hd), hs[i]? = some x → x.2.1 = (row l i).length ∧ x.2.1 ≤ x.2.2 ∧ KB.R 5 W base (fun _ => True) (.slice x.1 x.2.1 x.2.2) (row l i)
theorem OwnM.move {W W1 : World} {base : Nat} {hs : List Hd} {l : List (List Int)} (h : OwnM W base hs l) (hm : ∀ v xs, KB.R 5 W base (fun _ => True) v xs → KB.R 5 W1 base (fun _ => True) v xs) : OwnM W1 base hs l :=
  ⟨h.len, fun i x hx => by obtain ⟨h1, h2, h3⟩ := h.rows i x hx; exact ⟨h1, h2, hm _ _ h3⟩⟩
theorem OwnM.below {W W1 : World} {base : Nat} {hs : List Hd} {l : List (List Int)} (h : OwnM W base hs l) (hb : Below W.heap.size W W1) : OwnM W1 base hs l := h.move fun _ _ h => Kd.R_below h hb
theorem OwnM.toRows {W : World} {base : Nat} {hs : List Hd} {l : List (List Int)} (h : OwnM W base hs l) : Rows W hs l := ⟨h.len, fun i x hx => by
  obtain ⟨h1, h2, h3⟩ := h.rows i x hx
  refine ⟨h1, h2, ?_⟩
  have := (Kd.R_reads' h3).2.2
  rwa [← h1] at this⟩
theorem OwnM.lower {W : World} {base base' : Nat} {hs : List Hd} {l : List (List Int)} (h : OwnM W base hs l) (hb : base' ≤ base) : OwnM W base' hs l :=
  ⟨h.len, fun i x hx => by obtain ⟨h1, h2, h3⟩ := h.rows i x hx; exact ⟨h1, h2, Kd.R_lower h3 hb⟩⟩
theorem OwnM.over {W W1 : World} {base base' : Nat} {hs hs' : List Hd} {l : List (List Int)} {v : Value} {ok : Nat → Prop} (h : OwnM W base hs l) (hv : KH.R 37 W base' ok v hs') (hg : W.grownBy W1 v.ownBlock) : OwnM W1 base hs l := h.move fun _ _ h => Kd.R_over h hv (by simp [KB, Kd.int, Kd.scalar]) hg
theorem OwnM.grown {W W1 : World} {base : Nat} {hs : List Hd} {l : List (List Int)} {o : Obj} (h : OwnM W base hs l) (hg : (W.alloc o).grownBy W1 (some W.heap.size)) : OwnM W1 base hs l :=
  h.move fun _ _ h => Kd.R_mono (Kd.R_grown (ok := fun k => True ∧ k ≠ W.heap.size) (Kd.R_alloc (Kd.R_elderB h W.heap.size (Nat.le_refl _)) o) hg (fun k hk e => hk.2 (by injection e))) (fun _ _ => trivial)
theorem OwnM.nil (W : World) (base : Nat) : OwnM W base [] [] := ⟨rfl, fun i x hx => by simp at hx⟩
theorem OwnM.snoc {W : World} {base c : Nat} {A : Option Addr} {hs : List Hd} {l : List (List Int)} {x : List Int} (h : OwnM W base hs l) (hc : x.length ≤ c) (hR : KB.R 5 W base (fun _ => True) (.slice A x.length c) x) : OwnM W base (hs ++ [(A, x.length, c)]) (l ++ [x]) := by
  refine ⟨by simp [h.len], fun i y hy => ?_⟩
  rcases Nat.lt_or_ge i hs.length with hi | hi
  · rw [List.getElem?_append_left hi] at hy
    have e : row (l ++ [x]) i = row l i := by
      unfold row
      rw [List.getD_eq_getElem?_getD, List.getElem?_append_left (by rw [← h.len]; exact hi), List.getD_eq_getElem?_getD]
    rw [e]
    exact h.rows i y hy
  · rw [List.getElem?_append_right hi] at hy
    have hi0 : i - hs.length = 0 := by
      have := (List.getElem?_eq_some_iff.1 hy).1
      simp at this
      omega
    rw [hi0] at hy
    obtain rfl := Option.some.inj hy
    have e : row (l ++ [x]) i = x := by
      unfold row
      rw [List.getD_eq_getElem?_getD, List.getElem?_append_right (by rw [← h.len]; exact hi), ← h.len, hi0]
      rfl
    rw [e]
    exact ⟨rfl, hc, hR⟩
theorem Rows.append {W : World} {h1 h2 : List Hd} {l1 l2 : List (List Int)} (a : Rows W h1 l1) (b : Rows W h2 l2) : Rows W (h1 ++ h2) (l1 ++ l2) := by
  refine ⟨by rw [List.length_append, List.length_append, a.1, b.1], fun i x hx => ?_⟩
  rcases Nat.lt_or_ge i h1.length with hi | hi
  · rw [List.getElem?_append_left hi] at hx
    have e : row (l1 ++ l2) i = row l1 i := by
      unfold row
      rw [List.getD_eq_getElem?_getD, List.getElem?_append_left (by rw [← a.1]; exact hi), List.getD_eq_getElem?_getD]
    rw [e]
    exact a.2 i x hx
  · rw [List.getElem?_append_right hi] at hx
    have e : row (l1 ++ l2) i = row l2 (i - h1.length) := by
      unfold row
      rw [List.getD_eq_getElem?_getD, List.getElem?_append_right (by rw [← a.1]; exact hi), ← a.1, List.getD_eq_getElem?_getD]
    rw [e]
    exact b.2 _ x hx
theorem KH_pair' {W : World} {b m0 m1 c0 c1 : Nat} {A0 A1 : Option Addr} (h : W.heap[b]? = some (.cells #[.slice A0 m0 c0, .slice A1 m1 c1] 37 (0, 0))) : KH.C W (some ⟨b, 0, none⟩) 2 [(A0, m0, c0), (A1, m1, c1)] := by
  refine ⟨rfl, by omega, fun _ => ⟨_, rfl, fun j p hj => ?_⟩⟩
  match j, hj with
  | 0, hj =>
    obtain rfl := Option.some.inj hj
    refine ⟨_, rfl, rfl, fun i u hu => ?_⟩
    cases i with
    | zero =>
      obtain rfl := Option.some.inj hu
      rw [show 0 * KH.sz + 0 = 0 by simp, Addr.add_mid, cell_of_row W b _ _ 37 (0, 0) h]; rfl
    | succ i => simp at hu
  | 1, hj =>
    obtain rfl := Option.some.inj hj
    refine ⟨_, rfl, rfl, fun i u hu => ?_⟩
    cases i with
    | zero =>
      obtain rfl := Option.some.inj hu
      rw [show 1 * KH.sz + 0 = 1 by simp [KH, Kd.scalar], Addr.add_mid, cell_of_row W b _ _ 37 (0, 0) h]; rfl
    | succ i => simp at hu
theorem mem_row {l : List (List Int)} {x : List Int} (h : x ∈ l) : ∃ i, i < l.length ∧ row l i = x := by
  obtain ⟨i, hi, e⟩ := List.getElem_of_mem h
  exact ⟨i, hi, by simp [row, List.getD, hi, e]⟩
theorem sizes_all (m : Nat) : ∀ (l : List (List Int)) (s : Nat), (s = 0 ∨ s = m) → (∀ x ∈ l, x.length = m) → sizesB s l = true := by
  intro l
  induction l with
  | nil => intro s _ _; rfl
  | cons x l ih =>
    intro s hs h
    have hx : x.length = m := h x List.mem_cons_self
    simp only [sizesB]
    rw [ih (max s x.length) (by rcases hs with rfl | rfl <;> omega) (fun y hy => h y (List.mem_cons_of_mem _ hy)), Bool.and_true]
    rcases hs with rfl | rfl
    · simp
    · simp [hx]
theorem sizes_rows {l : List (List Int)} {m : Nat} (h : ∀ i, i < l.length → (row l i).length = m) : sizesB 0 l = true :=
  sizes_all m l 0 (.inl rfl) (fun x hx => by obtain ⟨i, hi, rfl⟩ := mem_row hx; exact h i hi)
theorem miss_rows {l : List (List Int)} {m : Nat} (hm : 0 < m) (h : ∀ i, i < l.length → (row l i).length = m) : missL l = [] := by
  unfold missL missFrom
  rw [List.map_eq_nil_iff, List.filter_eq_nil_iff]
  intro q hq
  have hq2 : q < l.length := by simpa [List.mem_range'_1] using hq
  have := h q hq2
  simp
  intro e
  rw [e] at this
  simp at this
  omega
end Go.Proofs.Ytjnicooboiijgaa.Rs
end

section
/-
  seg.pages: the pages of a row of payloads.
-/
set_option linter.unusedVariables false
set_option linter.unusedSimpArgs false
namespace Go.Proofs.Ytjnicooboiijgaa.Sg
open Go.RowKit Go.Proofs.YtjnicooboiijgaaW.PrintWords Go.Proofs.YtjnicooboiijgaaW.PrintLast Go.Proofs.YtjnicooboiijgaaW.PrintMore Go.Proofs.Ytjnicooboiijgaa.PSg Go.Proofs.Ytjnicooboiijgaa.Gf Go.Proofs.Ytjnicooboiijgaa.Rs
/-- What a closure of seg.pages holds: the shape, the segment, the row. -/
structure Held (W : World) (sb ib rb sz seg row : Nat) (k pgs : Int) : Prop where
  s : W.heap[sb]? = some (.cells #[.int .i64 k, .int .i64 pgs, .int .i64 sz] 23 (0, 0))
  i : W.heap[ib]? = some (.cells #[.int .u64 seg] 24 (0, 0))
  r : W.heap[rb]? = some (.cells #[.int .i64 row] 3 (0, 0))
theorem Held.below {W W1 : World} {sb ib rb sz seg row : Nat} {k pgs : Int} (h : Held W sb ib rb sz seg row k pgs) (hb : Below W.heap.size W W1) : Held W1 sb ib rb sz seg row k pgs :=
  ⟨(hb.block _ (heap_lt h.s)).trans h.s, (hb.block _ (heap_lt h.i)).trans h.i, (hb.block _ (heap_lt h.r)).trans h.r⟩
def bytes (l : List Int) : Bool := l.all fun a => decide (0 ≤ a) && decide (a < 256)
/-- A page of the call's own. -/
def PageQ (w : World) (sz : Nat) (L : List Int) (e : Ending) (w' : World) : Prop := ∃ d c, e = .returned (.slice (some ⟨d, 0, none⟩) sz c) ∧ sz ≤ c ∧ KB.R 5 w' w.heap.size (fun _ => True) (.slice (some ⟨d, 0, none⟩) sz c) L ∧ Below w.heap.size w w'
theorem pageL_len {sz seg row shard : Nat} {pl : List Int} (h : pl.length ≤ sz - 19) (h1 : 32 ≤ sz) : (pageL sz seg row shard pl).length = sz := by
  unfold pageL
  rw [List.length_append, lowL_len, bodyL_len h h1]
  omega
theorem room_le {sz : Nat} (h1 : 32 ≤ sz) : roomN sz ≤ sz - 19 := by unfold roomN; split <;> omega
set_option maxHeartbeats 8000000 in
set_option maxRecDepth 100000 in
theorem page59 (w : World) (sb ib rb sz seg row shard n cp : Nat) (k pgs : Int) (A : Option Addr) (pl : List Int) (hH : Held w sb ib rb sz seg row k pgs) (hA : KB.C w A n pl) (hpl : bytes pl = true) (h1 : 32 ≤ sz) (h2 : sz ≤ 65536) (hseg : seg < 18446744073709551616) (hrow : row ≤ 1073741824) (hsh : shard ≤ 255) (hn : n ≤ roomN sz) :
    Calls Try.prog 59 #[.int .i64 shard, .slice A n cp, .pointer (some ⟨sb, 0, none⟩), .pointer (some ⟨ib, 0, none⟩), .pointer (some ⟨rb, 0, none⟩)] w (PageQ w sz (pageL sz seg row shard pl)) := by
  have x0 : w.cell? ⟨sb, 2, none⟩ = some (.int .i64 sz) := by rw [cell_of_row w sb 2 _ 23 (0, 0) hH.s]; rfl
  have x1 : w.cell? ⟨ib, 0, none⟩ = some (.int .u64 seg) := by rw [cell_of_row w ib 0 _ 24 (0, 0) hH.i]; rfl
  have x2 : w.cell? ⟨rb, 0, none⟩ = some (.int .i64 row) := by rw [cell_of_row w rb 0 _ 3 (0, 0) hH.r]; rfl
  have HP := Aside0.mk (fun (W : World) (hW : Below w.heap.size w W) => page60_ok W sz seg row shard n cp 0 A pl (Kd.C_below hA hW) hpl h1 h2 hseg hrow hsh hn)
  clear hH hA hpl
  go_enter Try.func59, Try.ntmps59
  go_wp2_with (go_at_call 60; refine Calls.mono (HP.out _ (Below.refl _ _)) ?_; rintro e w1 ⟨d, c, rfl, hc, hR, hb⟩; have HC := Aside0.mk hc; have HR := Aside0.mk hR; have HB := Aside0.mk hb; clear hc hR hb)
  go_ret
  exact ⟨d, c, rfl, HC.out, HR.out, HB.out⟩
/-- The pages of a row of payloads. -/
def pagesL (sz seg row : Nat) (l : List (List Int)) : List (List Int) := (List.range l.length).map fun i => pageL sz seg row i (Gf.row l i)
theorem pagesL_len {sz seg row : Nat} {l : List (List Int)} : (pagesL sz seg row l).length = l.length := by simp [pagesL]
theorem pagesL_take {sz seg row q : Nat} {l : List (List Int)} (hq : q < l.length) : (pagesL sz seg row l).take (q + 1) = (pagesL sz seg row l).take q ++ [pageL sz seg row q (Gf.row l q)] := by
  rw [List.take_succ_eq_append_getElem (by rw [pagesL_len]; exact hq)]
  simp [pagesL]
/-- Rows of the call's own are told. -/
def RowsO (w : World) (L : List (List Int)) (e : Ending) (w' : World) : Prop := ∃ v hs, e = .returned v ∧ KH.R 37 w' w.heap.size (fun _ => True) v hs ∧ OwnM w' w.heap.size hs L ∧ Below w.heap.size w w'
set_option maxHeartbeats 8000000 in
set_option maxRecDepth 100000 in
theorem each58 (w : World) (sb ib rb sz seg row n c : Nat) (k pgs : Int) (A : Option Addr) (l : List (List Int)) (hH : Held w sb ib rb sz seg row k pgs) (hA : KR.C w A n l) (ok : ∀ i, i < n → bytes (Gf.row l i) = true) (h1 : 32 ≤ sz) (h2 : sz ≤ 65536) (hseg : seg < 18446744073709551616) (hrow : row ≤ 1073741824) (hn : n ≤ 256) (hl : ∀ i, i < n → (Gf.row l i).length ≤ roomN sz) :
    Calls Try.prog 58 #[.slice A n c, .func (.func 59) #[] #[.pointer (some ⟨sb, 0, none⟩), .pointer (some ⟨ib, 0, none⟩), .pointer (some ⟨rb, 0, none⟩)]] w (RowsO w (pagesL sz seg row l)) := by
  have hll : l.length = n := Kd.C_len hA
  have HP := Aside0.mk (fun (W : World) (hW : Below w.heap.size w W) (i : Nat) (hi : i < n) (Ai : Option Addr) (ci : Nat) (hI : KB.C W Ai (Gf.row l i).length (Gf.row l i)) => page59 W sb ib rb sz seg row i (Gf.row l i).length ci k pgs Ai (Gf.row l i) (hH.below hW) hI (ok i hi) h1 h2 hseg hrow (by omega) (hl i hi))
  have HA := Aside0.mk hA
  have HLL := Aside0.mk hll
  have HPL := Aside0.mk (fun (i : Nat) (hi : i < n) => pageL_len (sz := sz) (seg := seg) (row := row) (shard := i) (pl := Gf.row l i) (by have := room_le h1; have := hl i hi; omega) h1)
  clear hH hA ok hl hll
  go_enter Try.func58, Try.ntmps58
  go_wp2_with fail
  go_loopw [5, 10] (fun bv iv W => ∃ (q : Nat) (hs : List Hd), q ≤ n ∧ iv = .int .i64 q ∧ Aside0 (KH.R 37 W w.heap.size (fun _ => True) bv hs) ∧ Aside0 (OwnM W w.heap.size hs ((pagesL sz seg row l).take q)) ∧ Aside0 (Below w.heap.size w W)) (fun _ iv _ => n - (intOf iv).toNat)
  case atStart => exact ⟨0, [], Nat.zero_le _, rfl, ⟨Kd.R_nil _ _ _ _ _⟩, ⟨by rw [List.take_zero]; exact OwnM.nil _ _⟩, ⟨Below.refl _ _⟩⟩
  case round =>
    obtain ⟨q, hs, hq, rfl, HH, HO, HB⟩ := hrel
    have hhl : hs.length = q := by rw [HO.out.len, List.length_take, pagesL_len, HLL.out]; omega
    by_cases hqn : q < n
    · clear hq
      obtain ⟨ad, Ai, ci, eA, xh, hle, hI⟩ := rows_at HA.out (i := q) hqn
      subst eA
      replace xh := pw_cell_below HB.out xh
      have HPq := Aside0.mk (HP.out wr HB.out q hqn Ai ci (Kd.C_below hI HB.out))
      have HTK := Aside0.mk (pagesL_take (sz := sz) (seg := seg) (row := row) (l := l) (q := q) (by rw [HLL.out]; exact hqn))
      have HPq2 := Aside0.mk (HPL.out q hqn)
      generalize (Gf.row l q).length = li at *
      generalize pageL sz seg row q (Gf.row l q) = pg at *
      have HHL := Aside0.mk hhl
      have hqi : decide ((q : Int) < (n : Int)) = true := decide_eq_true (by omega)
      have hq0 : (0 : Int) ≤ (q : Int) := by omega
      have hq1 : (q : Int) < (n : Int) := by omega
      clear hI hle hhl
      go_wp2_with (first
        | (go_at_call 59; refine Calls.mono HPq.out ?_; rintro e w1 ⟨d, cc, rfl, hc, hR, hb⟩
           have HC := Aside0.mk hc
           have HR := Aside0.mk (Kd.R_lower hR HB.out.size)
           have HH1 := Aside0.mk (Kd.R_below HH.out hb)
           have HO1 := Aside0.mk (HO.out.below hb)
           have HB1 := Aside0.mk (below_then HB.out HB.out.size hb)
           clear hc hR hb HH HO HB)
        | ((with_reducible refine gate_builtin (b := .append) (xs := #[.tmp 15, .tmp 20]) rfl ?_); refine Kd.R_append KH (w0 := w) w.heap.size rfl (.tmp 15) (.tmp 20) 51 37 (.slice none 0 0) 24 rfl Try.underlying51 Go.Proofs.Ytjnicooboiijgaa.PSg.info37 rfl (by decide) (by omega) u5 hs (some ⟨d, 0, none⟩, sz, cc) [.slice (some ⟨d, 0, none⟩) sz cc] (fun _ => True) (fun _ => False) rfl rfl rfl (fun _ hk => hk.elim) (fun _ _ => trivial) HH1.out HB1.out HB1.out.size (by rw [HHL.out]; omega) ?_
           intro v7 w7 ho hb hg hat
           have HO7 := Aside0.mk ((HO1.out.snoc (x := pg) (c := cc) (A := some ⟨d, 0, none⟩) (by rw [HPq2.out]; exact HC.out) (by rw [HPq2.out]; exact HR.out)).over HH1.out hg)
           have HH7 := Aside0.mk ho
           have HB7 := Aside0.mk hb
           clear ho hb hg hat HH1 HO1 HB1))
      go_roundw
      case measure => simp [intOf]; omega
      case rel => exact ⟨q + 1, _, hqn, by go_num, HH7, ⟨by rw [HTK.out]; have := HO7.out; rw [HPq2.out] at this; exact this⟩, HB7⟩
    · obtain rfl : q = n := by omega
      have hqi : decide ((q : Int) < (q : Int)) = false := decide_eq_false (by omega)
      have hto : (pagesL sz seg row l).take q = pagesL sz seg row l := List.take_of_length_le (by rw [pagesL_len, HLL.out]; exact Nat.le_refl _)
      rw [hto] at HO
      clear hto
      go_wp2_with fail
      go_ret
      exact ⟨_, _, rfl, HH.out, HO.out, HB.out⟩
/-- The world with the boxes of what the closure holds. -/
def boxes (w : World) (sz seg row : Nat) (k pgs : Int) : World := ((w.alloc (.cells #[.int .i64 k, .int .i64 pgs, .int .i64 sz] 23)).alloc (.cells #[.int .u64 seg] 24)).alloc (.cells #[.int .i64 row] 3)
theorem boxes_below (w : World) (sz seg row : Nat) (k pgs : Int) : Below w.heap.size w (boxes w sz seg row k pgs) := below_alloc (below_alloc (below_alloc (Below.refl _ _) _) _) _
theorem boxes_held (w : World) (sz seg row : Nat) (k pgs : Int) : Held (boxes w sz seg row k pgs) w.heap.size (w.heap.size + 1) (w.heap.size + 2) sz seg row k pgs := by
  refine ⟨blkalloc (blkalloc (heap_alloc_last _ _) _) _, ?_, ?_⟩
  · have h := heap_alloc_last (w.alloc (.cells #[.int .i64 k, .int .i64 pgs, .int .i64 sz] 23)) (.cells #[.int .u64 seg] 24)
    rw [World.size_alloc] at h
    exact blkalloc h _
  · have h := heap_alloc_last ((w.alloc (.cells #[.int .i64 k, .int .i64 pgs, .int .i64 sz] 23)).alloc (.cells #[.int .u64 seg] 24)) (.cells #[.int .i64 row] 3)
    rw [World.size_alloc, World.size_alloc] at h
    exact h
set_option maxHeartbeats 8000000 in
set_option maxRecDepth 100000 in
theorem pages44 (w : World) (sz seg row n c : Nat) (k pgs : Int) (A : Option Addr) (l : List (List Int)) (hA : KR.C w A n l) (ok : ∀ i, i < n → bytes (Gf.row l i) = true) (h1 : 32 ≤ sz) (h2 : sz ≤ 65536) (hseg : seg < 18446744073709551616) (hrow : row ≤ 1073741824) (hn : n ≤ 256) (hl : ∀ i, i < n → (Gf.row l i).length ≤ roomN sz) :
    Calls Try.prog 44 #[.agg #[.int .i64 k, .int .i64 pgs, .int .i64 sz], .int .u64 seg, .int .i64 row, .slice A n c] w (RowsO w (pagesL sz seg row l)) := by
  have HE := Aside0.mk (each58 (boxes w sz seg row k pgs) w.heap.size (w.heap.size + 1) (w.heap.size + 2) sz seg row n c k pgs A l (boxes_held w sz seg row k pgs) (Kd.C_below hA (boxes_below w sz seg row k pgs)) ok h1 h2 hseg hrow hn hl)
  have HB0 := Aside0.mk (boxes_below w sz seg row k pgs)
  unfold boxes at HE HB0
  have hmf : ∀ (fn : Fn) (first cap : Array Value) (w : World), (Instr.makeFunc fn first cap).run Try.prog w = .ok (.func fn first cap) w := fun _ _ _ _ => rfl
  clear hA ok hl
  go_enter Try.func44, Try.ntmps44
  go_wp2_with (go_at_call 58; refine Calls.mono HE.out ?_; rintro e w1 ⟨v, hs, rfl, hH, hO, hb⟩; have HH := Aside0.mk (Kd.R_lower hH HB0.out.size); have HO := Aside0.mk (hO.lower HB0.out.size); have HB := Aside0.mk (below_then HB0.out HB0.out.size hb); clear hH hO hb)
  go_ret
  exact ⟨_, _, rfl, HH.out, HO.out, HB.out⟩
end Go.Proofs.Ytjnicooboiijgaa.Sg
end

section
/-
  seg.Pages: a row's pages.
-/
set_option linter.unusedVariables false
set_option linter.unusedSimpArgs false
namespace Go.Proofs.Ytjnicooboiijgaa.Sg
open Go.RowKit Go.Proofs.YtjnicooboiijgaaW.PrintWords Go.Proofs.YtjnicooboiijgaaW.PrintLast Go.Proofs.YtjnicooboiijgaaW.PrintMore Go.Proofs.Ytjnicooboiijgaa.PSg Go.Proofs.Ytjnicooboiijgaa.Gf Go.Proofs.Ytjnicooboiijgaa.Rs
theorem room_eq (sz : Nat) (h1 : 32 ≤ sz) (h2 : sz ≤ 65536) : frame_Room.f (sz : Int) = some ((roomN sz : Nat) : Int) := by
  unfold frame_Room.f roomN
  rw [if_neg (by omega), if_neg (by omega), if_neg (by omega)]
  have hw : wrap64 ((sz : Int) - 19) = ((sz - 19 : Nat) : Int) := by unfold wrap64; omega
  rw [hw]
  unfold mn
  congr 1
  split <;> omega
theorem room_pos {sz : Nat} (h1 : 32 ≤ sz) (h2 : sz ≤ 65536) : 13 ≤ roomN sz ∧ roomN sz ≤ 65517 := by unfold roomN; rw [if_neg (by omega)]; omega
/-- A shape that may be. -/
structure Fits (k pgs sz : Nat) : Prop where
  k1 : 1 ≤ k
  k2 : k ≤ 32
  p1 : 2 ≤ pgs
  p2 : pgs ≤ 4096
  s1 : 32 ≤ sz
  s2 : sz ≤ 65536
theorem check_eq {k pgs sz : Nat} (h : Fits k pgs sz) : seg_Check.f k pgs sz = some 0 := by
  obtain ⟨k1, k2, p1, p2, s1, s2⟩ := h
  unfold seg_Check.f
  rw [if_neg (by omega), if_neg (by omega), if_neg (by omega), if_neg (by omega), room_eq sz s1 s2]
  simp only [Option.bind_some]
  rw [if_neg (by have := room_pos s1 s2; omega)]
theorem row_lt {k pgs sz : Nat} (h : Fits k pgs sz) : k * roomN sz ≤ 2097152 := by
  have := room_pos h.s1 h.s2
  calc k * roomN sz ≤ 32 * 65517 := Nat.mul_le_mul h.k2 this.2
    _ ≤ 2097152 := by decide
theorem row_eq {k pgs sz : Nat} (h : Fits k pgs sz) : seg_Row.f k pgs sz = some ((k * roomN sz : Nat) : Int) := by
  unfold seg_Row.f
  rw [check_eq h]
  simp only [Option.bind_some, if_true]
  rw [room_eq sz h.s1 h.s2]
  simp only [Option.bind_some]
  have := row_lt h
  congr 1
  rw [← Int.natCast_mul]
  unfold wrap64
  omega
theorem check22 (w : World) {k pgs sz : Nat} (h : Fits k pgs sz) : Calls Try.prog 22 #[.agg #[.int .i64 k, .int .i64 pgs, .int .i64 sz]] w fun e w' => e = .returned (.int .i64 0) ∧ Below w.heap.size w w' := seg_Check.calls k pgs sz 0 w (check_eq h)
theorem row23 (w : World) {k pgs sz : Nat} (h : Fits k pgs sz) : Calls Try.prog 23 #[.agg #[.int .i64 k, .int .i64 pgs, .int .i64 sz]] w fun e w' => e = .returned (.int .i64 (k * roomN sz : Nat)) ∧ Below w.heap.size w w' := seg_Row.calls k pgs sz _ w (row_eq h)
theorem mkN (n : Nat) (hn : n ≤ 3000000) (w : World) :
    (Instr.makeSlice 37 (.int .i64 (n : Int)) (.int .i64 (n : Int))).run Try.prog w = .ok (.slice (some ⟨w.heap.size, 0, none⟩) n n) (w.alloc (.cells (byC n fun _ => 0) 5)) := by
  obtain ⟨i, hi, h'⟩ := Option.map_eq_some_iff.1 Go.Proofs.Ytjnicooboiijgaa.PSg.info5
  simp only [Prod.mk.injEq] at h'
  obtain ⟨h0, h1, h2⟩ := h'
  have := run_make_rowN (P := Try.prog) 37 5 i (.int .u8 0) Try.underlying37 hi h0 .i64 .i64 n n (Nat.le_refl _) (by rw [h2]; omega) (by omega) w
  rw [this, h1, Nat.mul_one]
  show Result.ok _ (w.alloc (.cells (madeCells #[_] n) 5)) = _
  rw [madeCells_one]
  simp [byC]
/-- Bytes, filled up by 0. -/
def padL (xs : List Int) (N : Nat) : List Int := xs ++ List.replicate (N - xs.length) 0
theorem padL_len {xs : List Int} {N : Nat} (h : xs.length ≤ N) : (padL xs N).length = N := by unfold padL; rw [List.length_append, List.length_replicate]; omega
theorem padL_bytes {xs : List Int} {N : Nat} (h : bytes xs = true) : bytes (padL xs N) = true := by
  unfold bytes padL at *
  rw [List.all_append, h, Bool.true_and, List.all_eq_true]
  intro x hx
  rw [List.eq_of_mem_replicate hx]
  rfl
theorem pad_eq {xs : List Int} {n N : Nat} (hl : xs.length = n) (hn : n ≤ N) : xs.take (min n (rowL N fun _ => 0).length) ++ (rowL N fun _ => 0).drop (min n (rowL N fun _ => 0).length) = padL xs N := by
  rw [rowL_length, Nat.min_eq_left hn, List.take_of_length_le (by omega)]
  unfold padL
  congr 1
  refine List.ext_getElem (by simp [rowL]; omega) fun i h1 h2 => by simp [rowL]
/-- Shard i of bytes. -/
def chunk (xs : List Int) (r i : Nat) : List Int := (xs.drop (i * r)).take r
def shardsL (xs : List Int) (k r : Nat) : List (List Int) := (List.range k).map fun i => chunk xs r i
theorem chunk_len {xs : List Int} {N k r q : Nat} (hl : xs.length = N) (hk : k * r = N) (hq : q < k) : (chunk xs r q).length = r := by
  have h1 : (q + 1) * r ≤ k * r := Nat.mul_le_mul_right r hq
  rw [Nat.succ_mul] at h1
  unfold chunk
  rw [List.length_take, List.length_drop]
  omega
theorem chunk_bytes {xs : List Int} (h : bytes xs = true) (r q : Nat) : bytes (chunk xs r q) = true := by
  unfold bytes chunk at *
  rw [List.all_eq_true] at h ⊢
  exact fun x hx => h x (List.mem_of_mem_drop (List.mem_of_mem_take hx))
theorem chunk_C {W : World} {d N k r q : Nat} {xs : List Int} (h : KB.C W (some ⟨d, 0, none⟩) N xs) (hk : k * r = N) (hq : q < k) (hr : 0 < r) : KB.C W (some ⟨d, q * r, none⟩) r (chunk xs r q) := by
  have hl : xs.length = N := Kd.C_len h
  have h1 : (q + 1) * r ≤ k * r := Nat.mul_le_mul_right r hq
  rw [Nat.succ_mul] at h1
  have h2 := drop_C h (q * r) (by omega) (Nat.le_refl _) (by omega)
  have h3 : (xs.drop (q * r)).length = N - q * r := by rw [List.length_drop, hl]
  rw [← h3] at h2
  have h4 := Kd.C_take (m := r) h2 (by omega)
  rw [List.length_take, Nat.min_eq_left (by omega)] at h4
  exact h4
theorem shardsL_len {xs : List Int} {k r : Nat} : (shardsL xs k r).length = k := by simp [shardsL]
theorem shardsL_row {xs : List Int} {k r q : Nat} (hq : q < k) : Gf.row (shardsL xs k r) q = chunk xs r q := by simp [shardsL, Gf.row, List.getD, hq]
theorem shardsL_ok {xs : List Int} {k r : Nat} (h : bytes xs = true) : okB (shardsL xs k r) = true := by
  unfold okB shardsL
  rw [List.all_eq_true]
  intro x hx
  obtain ⟨q, _, rfl⟩ := List.mem_map.mp hx
  exact chunk_bytes h r q
theorem shards_rows {W : World} {d N k r : Nat} {xs : List Int} (h : KB.C W (some ⟨d, 0, none⟩) N xs) (hk : k * r = N) (hr : 0 < r) : Rs.Rows W ((List.range k).map fun q => ((some ⟨d, q * r, none⟩, r, r) : Hd)) (shardsL xs k r) := by
  refine ⟨by simp [shardsL], fun q x hx => ?_⟩
  have hq : q < k := by
    have := (List.getElem?_eq_some_iff.1 hx).1
    simpa using this
  have hx2 : x = (some ⟨d, q * r, none⟩, r, r) := by
    rw [List.getElem?_map, List.getElem?_range hq] at hx
    exact (Option.some.inj hx).symm
  subst hx2
  rw [shardsL_row hq]
  exact ⟨(chunk_len (Kd.C_len h) hk hq).symm, Nat.le_refl _, chunk_C h hk hq hr⟩
theorem rowL_bytes {m : Nat} {f : Nat → Nat} (h : ∀ x, f x < 256) : bytes (rowL m f) = true := by
  unfold bytes rowL
  rw [List.all_eq_true]
  intro y hy
  obtain ⟨x, _, rfl⟩ := List.mem_map.mp hy
  have := h x
  simp
  omega
theorem tcol_lt' {k : Nat} (r : Nat) (l : List (List Int)) (x : Nat) : tcol (rho r) l k x < 256 := tcol_lt (fun i => GfM.g_lt _) k x
theorem pair_own {w W : World} {b g0 g1 m : Nat} {f0 f1 : Nat → Nat} (h : PairAt w W b g0 g1 m f0 f1) (hm : m ≤ 1000000) : OwnM W w.heap.size [(some ⟨g0, 0, none⟩, m, m), (some ⟨g1, 0, none⟩, m, m)] [rowL m f0, rowL m f1] := by
  have h2 := h.lt
  refine ⟨rfl, fun i x hx => ?_⟩
  match i, hx with
  | 0, hx =>
    obtain rfl := Option.some.inj hx
    exact ⟨(rowL_length _ _).symm, Nat.le_refl _, rowAt_R h.row0 h.ge (show m ≤ 1000000000 by omega) trivial⟩
  | 1, hx =>
    obtain rfl := Option.some.inj hx
    exact ⟨(rowL_length _ _).symm, Nat.le_refl _, rowAt_R h.row1 (by have := h.ge; omega) (show m ≤ 1000000000 by omega) trivial⟩
/-- The payloads of a row: its shards and their parity. -/
def payL (xs : List Int) (k r : Nat) : List (List Int) := shardsL xs k r ++ [rowL r (tcol (rho 0) (shardsL xs k r) k), rowL r (tcol (rho 1) (shardsL xs k r) k)]
theorem payL_len {xs : List Int} {k r : Nat} : (payL xs k r).length = k + 2 := by unfold payL; rw [List.length_append, shardsL_len]; rfl
theorem payL_all {xs : List Int} {k r N : Nat} (hl : xs.length = N) (hk : k * r = N) (hb : bytes xs = true) (i : Nat) (hi : i < k + 2) : (Gf.row (payL xs k r) i).length = r ∧ bytes (Gf.row (payL xs k r) i) = true := by
  unfold payL
  rcases Nat.lt_or_ge i k with h | h
  · have e : Gf.row (shardsL xs k r ++ [rowL r (tcol (rho 0) (shardsL xs k r) k), rowL r (tcol (rho 1) (shardsL xs k r) k)]) i = Gf.row (shardsL xs k r) i := by
      unfold Gf.row
      rw [List.getD_eq_getElem?_getD, List.getElem?_append_left (by rw [shardsL_len]; exact h), List.getD_eq_getElem?_getD]
    rw [e, shardsL_row h]
    exact ⟨chunk_len hl hk h, chunk_bytes hb r i⟩
  · have e : Gf.row (shardsL xs k r ++ [rowL r (tcol (rho 0) (shardsL xs k r) k), rowL r (tcol (rho 1) (shardsL xs k r) k)]) i = [rowL r (tcol (rho 0) (shardsL xs k r) k), rowL r (tcol (rho 1) (shardsL xs k r) k)].getD (i - k) [] := by
      unfold Gf.row
      rw [List.getD_eq_getElem?_getD, List.getElem?_append_right (by rw [shardsL_len]; exact h), shardsL_len, List.getD_eq_getElem?_getD]
    rw [e]
    have : i - k = 0 ∨ i - k = 1 := by omega
    rcases this with e | e
    · rw [e]; exact ⟨rowL_length _ _, rowL_bytes (tcol_lt' 0 _)⟩
    · rw [e]; exact ⟨rowL_length _ _, rowL_bytes (tcol_lt' 1 _)⟩
def pages24.T18 : Bool × List (List Nat × List Nat) := (true, [([], []), ([], []), ([], []), ([], []), ([], []), ([3, 4], [3, 4]), ([0, 1, 2, 5, 5], [0, 1, 2, 5]), ([6, 6, 0, 1, 2, 3, 4, 5, 6], [6]), ([7, 0, 1, 2, 3, 4, 5, 6, 7], [])])
def pages24.B18 : List Nat := [0, 0, 0, 0, 0, 24, 63, 127, 255]
theorem pages24.tab18 : rtab .any (opsOf Try.f24 18) = pages24.T18 := by kernel_rfl
theorem pages24.bits18 : waitsOk pages24.T18.2 pages24.B18 = true := by kernel_rfl
set_option maxHeartbeats 8000000 in
set_option maxRecDepth 100000 in
theorem pages24_ok (w : World) (k pgs sz seg row n c : Nat) (hf : Fits k pgs sz) (A : Option Addr) (xs : List Int) (hA : KB.C w A n xs) (hx : bytes xs = true) (hseg : seg < 18446744073709551616) (hr1 : 1 ≤ row) (hr2 : row < pgs) (hn : n ≤ k * roomN sz) :
    Calls Try.prog 24 #[.agg #[.int .i64 k, .int .i64 pgs, .int .i64 sz], .int .u64 seg, .int .i64 row, .slice A n c] w fun e w' => ∃ v hs, e = .returned (.tuple #[v, .int .i64 0]) ∧ KH.R 37 w' w.heap.size (fun _ => True) v hs ∧ OwnM w' w.heap.size hs (pagesL sz seg row (payL (padL xs (k * roomN sz)) k (roomN sz))) ∧ Below w.heap.size w w' := by
  have HC := Aside0.mk (fun (W : World) => check22 W hf)
  have HRO := Aside0.mk (fun (W : World) => row23 W hf)
  have HRM := Aside0.mk (fun (W : World) => room41 W sz hf.s1 hf.s2)
  have hN := row_lt hf
  have HF := Aside0.mk hf
  have HA := Aside0.mk hA
  have HX := Aside0.mk hx
  have HM := Aside0.mk (show k * roomN sz = k * roomN sz from rfl)
  have hp2 := hf.p2
  generalize hNN : k * roomN sz = N at HRO hN hn HM
  have HNN := Aside0.mk hNN
  have c1 : decide ((row : Int) < 1) = false := decide_eq_false (by omega)
  have c2 : decide ((pgs : Int) ≤ (row : Int)) = false := decide_eq_false (by omega)
  have c3 : decide ((N : Int) < (n : Int)) = false := decide_eq_false (by omega)
  have c4 : ¬ N < n := by omega
  have c5 : ¬ pgs ≤ row := by omega
  have hmk := mkN N (by omega)
  have HH := Aside0.mk (heap_alloc_last w (.cells #[.int .i64 k, .int .i64 pgs, .int .i64 sz] 23))
  have HB := Aside0.mk (below_alloc (Below.refl w.heap.size w) (.cells #[.int .i64 k, .int .i64 pgs, .int .i64 sz] 23))
  clear hA hx hf hNN
  go_enter Try.func24, Try.ntmps24
  go_wp2_with (first
    | (go_at_call 22; refine Calls.mono (HC.out _) ?_; rintro e w1 ⟨rfl, hb⟩; replace HH := Aside0.mk ((hb.block _ (heap_lt HH.out)).trans HH.out); replace HB := Aside0.mk (below_then HB.out HB.out.size hb); have y0 := (cell_of_row _ _ 0 _ 23 (0, 0) HH.out); have y1 := (cell_of_row _ _ 1 _ 23 (0, 0) HH.out); have y2 := (cell_of_row _ _ 2 _ 23 (0, 0) HH.out); simp only [List.getElem?_toArray, List.getElem?_cons_zero, List.getElem?_cons_succ] at y0 y1 y2; clear hb)
    | (go_at_call 23; refine Calls.mono (HRO.out _) ?_; rintro e w1 ⟨rfl, hb⟩; replace HH := Aside0.mk ((hb.block _ (heap_lt HH.out)).trans HH.out); replace HB := Aside0.mk (below_then HB.out HB.out.size hb); have y0 := (cell_of_row _ _ 0 _ 23 (0, 0) HH.out); have y1 := (cell_of_row _ _ 1 _ 23 (0, 0) HH.out); have y2 := (cell_of_row _ _ 2 _ 23 (0, 0) HH.out); simp only [List.getElem?_toArray, List.getElem?_cons_zero, List.getElem?_cons_succ] at y0 y1 y2; clear hb)
    | ((with_reducible refine gate_builtin (b := .copy) (xs := #[.tmp 43, .tmp 44]) rfl ?_); refine Kd.R_copy (enc := Value.int .u8) (h1 := fun _ => rfl) (0 : Int) (w0 := w1) w1.heap.size rfl (.tmp 43) (.tmp 44) 37 37 5 rfl Try.underlying37 (by kernel_rfl) (.slice (some ⟨w1.heap.size, 0, none⟩) N N) (rowL N fun _ => 0) xs A n c (fun _ => True) rfl rfl (rowAt_R (f := fun _ => 0) (base := w1.heap.size) (ok := fun _ => True) (heap_alloc_last _ _) (Nat.le_refl _) (by omega) trivial) (Kd.C_below (Kd.C_below HA.out HB.out) (below_alloc (Below.refl _ _) _)) (below_alloc (Below.refl _ _) _) (by simp) ?_
       intro w2 ho hb hg
       rw [pad_eq (Kd.C_len HA.out) hn] at ho
       have HP2 := Aside0.mk ho
       have HB2 := Aside0.mk hb
       have y0 := pw_cell_below hb y0
       have y1 := pw_cell_below hb y1
       have y2 := pw_cell_below hb y2
       clear ho hb hg)
    | (go_at_call 41; refine Calls.mono (HRM.out _) ?_; rintro e w3 ⟨rfl, hb⟩
       have HP3 := Aside0.mk (Kd.R_below HP2.out hb)
       have z0 := pw_cell_below hb y0
       have z1 := pw_cell_below hb y1
       have z2 := pw_cell_below hb y2
       clear y0 y1 y2
       have HB3 := Aside0.mk (below_then HB2.out HB2.out.size hb)
       clear hb HP2 HB2))
  have hrp := room_pos HF.out.s1 HF.out.s2
  obtain ⟨d, hd⟩ : ∃ d, w1.heap.size = d := ⟨_, rfl⟩
  have HCd := Aside0.mk (show KB.C w3 (some ⟨d, 0, none⟩) N (padL xs N) by
    have h1 : KB.R 5 w3 w1.heap.size (fun _ => True) (.slice (some ⟨w1.heap.size, 0, none⟩) (padL xs N).length N) (padL xs N) := by rw [padL_len (by rw [Kd.C_len HA.out]; exact hn)]; exact HP3.out
    have h2 := (Kd.R_reads' h1).2.2
    rw [padL_len (by rw [Kd.C_len HA.out]; exact hn)] at h2
    rw [← hd]
    exact h2)
  rw [hd]
  obtain ⟨r, hr⟩ : ∃ r, roomN sz = r := ⟨_, rfl⟩
  have HRR := Aside0.mk hr
  have HNN := Aside0.mk (show k * r = N by rw [← hr]; exact HNN.out)
  rw [hr] at hrp ⊢
  have HDD := Aside0.mk hd
  have HB03 := Aside0.mk (below_then HB.out HB.out.size HB3.out)
  clear HRM HRO HC hr hd hmk HP3 c1 c2 c3 c4 c5
  go_loopw [13, 14] (fun bv ov W => ∃ (i : Nat), i ≤ k ∧ ov = .int .i64 (i * r : Nat) ∧ Aside0 (KH.R 37 W w3.heap.size (fun _ => True) bv ((List.range i).map fun q => (some ⟨d, q * r, none⟩, r, r))) ∧ Aside0 (Below w3.heap.size w3 W)) (fun _ ov _ => N - (intOf ov).toNat)
  case atStart => exact ⟨0, Nat.zero_le _, by simp, ⟨Kd.R_nil _ _ _ _ _⟩, ⟨Below.refl _ _⟩⟩
  case round =>
    obtain ⟨i, hi, rfl, HHd, HBl⟩ := hrel
    by_cases hik : i < k
    · have ho : i * r + r ≤ N := by
        have h1 : (i + 1) * r ≤ k * r := Nat.mul_le_mul_right r (by omega)
        rw [HNN.out, Nat.succ_mul] at h1
        exact h1
      have HS := Aside0.mk (show (i + 1) * r = i * r + r from Nat.succ_mul i r)
      have HRG := Aside0.mk (show ((List.range (i + 1)).map fun q => ((some ⟨d, q * r, none⟩, r, r) : Hd)) = ((List.range i).map fun q => ((some ⟨d, q * r, none⟩, r, r) : Hd)) ++ [(some ⟨d, i * r, none⟩, r, r)] by rw [List.range_succ, List.map_append]; rfl)
      have HLN := Aside0.mk (show ((List.range i).map fun q => ((some ⟨d, q * r, none⟩, r, r) : Hd)).length = i by simp)
      have HIK := Aside0.mk hik
      generalize i * r = o at *
      have hoi : decide ((o : Int) < (N : Int)) = true := decide_eq_true (by omega)
      have ho0 : (0 : Int) ≤ (o : Int) := by omega
      have ho1 : (o : Int) ≤ (o : Int) + (r : Int) := by omega
      have ho2 : (o : Int) + (r : Int) ≤ (N : Int) := by omega
      have ho3 : (o : Int) ≤ (N : Int) := by omega
      clear hi hik
      go_wp2_with (first
        | ((with_reducible refine gate_builtin (b := .append) (xs := #[.tmp 56, .tmp 66]) rfl ?_); refine Kd.R_append KH (w0 := w3) w3.heap.size rfl (.tmp 56) (.tmp 66) 51 37 (.slice none 0 0) 24 rfl Try.underlying51 Go.Proofs.Ytjnicooboiijgaa.PSg.info37 rfl (by decide) (by omega) u13 ((List.range i).map fun q => ((some ⟨d, q * r, none⟩, r, r) : Hd)) (some ⟨d, o, none⟩, r, r) [.slice (some ⟨d, o, none⟩) r r] (fun _ => True) (fun _ => False) rfl rfl rfl (fun _ hk => hk.elim) (fun _ _ => trivial) HHd.out HBl.out HBl.out.size (by rw [HLN.out]; have := HF.out.k2; have := HIK.out; omega) ?_
           intro v7 w7 ho hb hg hat
           have HH7 := Aside0.mk ho
           have HB7 := Aside0.mk hb
           clear ho hb hg hat HHd HBl))
      go_roundw
      case measure => simp [intOf]; omega
      case rel => exact ⟨i + 1, HIK.out, by rw [HS.out]; go_num, ⟨by rw [HRG.out]; exact HH7.out⟩, HB7⟩
    · obtain rfl : i = k := by omega
      rw [HNN.out]
      have hoi : decide ((N : Int) < (N : Int)) = false := decide_eq_false (by omega)
      obtain ⟨Al, cl, ev, hle, hCl⟩ := Kd.R_reads HHd.out
      rw [List.length_map, List.length_range] at ev hle hCl
      subst ev
      have HKH := Aside0.mk hCl
      have HLE := Aside0.mk hle
      have HRW := Aside0.mk (shards_rows HCd.out HNN.out (by omega))
      have HKR := Aside0.mk (KR_of_KH hCl (HRW.out.below HBl.out))
      have HPX := Aside0.mk (padL_bytes (N := N) HX.out)
      have hpl : (padL xs N).length = N := padL_len (by rw [Kd.C_len HA.out]; exact hn)
      have HROW := Aside0.mk (fun (q : Nat) (hq : q < i) => (by rw [shardsL_row hq]; exact chunk_len hpl HNN.out hq : (Gf.row (shardsL (padL xs N) i r) q).length = r))
      have HNW := Aside0.mk (fun (W : World) => (by refine (new10 W (i : Int)).mono ?_; rintro e w' ⟨hb, h⟩; rw [if_pos (by have := HF.out.k1; have := HF.out.k2; omega)] at h; obtain ⟨g, rfl, hg, hc⟩ := h; exact ⟨g, rfl, hc, hb⟩ : Calls Try.prog 42 #[.int .i64 i] W fun e w' => ∃ g, e = .returned (.tuple #[.pointer (some ⟨g, 0, none⟩), .int .i64 0]) ∧ CodeAt w' g i ∧ Below W.heap.size W w'))
      have HPR := Aside0.mk (fun (W : World) (g : Nat) (hc : CodeAt W g i) (hW : Below wr.heap.size wr W) => parity11_ok W g i hc HF.out.k1 HF.out.k2 Al cl (shardsL (padL xs N) i r) (Kd.C_below HKR.out hW) shardsL_len HLE.out r (by omega) (shardsL_ok HPX.out) HROW.out (sizes_rows (by rw [shardsL_len]; exact HROW.out)) (miss_rows (m := r) (by omega) (by rw [shardsL_len]; exact HROW.out)))
      clear hle hCl hpl hi hik
      have y0 := pw_cell_below HBl.out z0
      have y1 := pw_cell_below HBl.out z1
      have y2 := pw_cell_below HBl.out z2
      go_wp2_with (first
        | (go_at_call 42; refine Calls.mono (HNW.out _) ?_; rintro e w4 ⟨gc, rfl, hc, hb⟩; have HC4 := Aside0.mk hc; have HB4 := Aside0.mk hb; clear hc hb HNW)
        | (go_at_call 43; refine Calls.mono (HPR.out _ gc HC4.out HB4.out) ?_; rintro e w5 ⟨pb, p0, p1, rfl, hp⟩; have HP5 := Aside0.mk hp; have HB5 := Aside0.mk (below_then HB4.out HB4.out.size hp.below); clear hp HPR))
      have HB35 := Aside0.mk (below_then HBl.out HBl.out.size HB5.out)
      have HH5 := Aside0.mk (Kd.R_below HHd.out HB5.out)
      have HK5 := Aside0.mk (KH_pair' HP5.out.top)
      have HO5 := Aside0.mk ((pair_own HP5.out (by omega)).lower (show w3.heap.size ≤ w4.heap.size by have h1 := HBl.out.size; have h2 := HB4.out.size; omega))
      have HAL := Aside0.mk (show (((List.range i).map fun q => ((some ⟨d, q * r, none⟩, r, r) : Hd)) ++ ([(some ⟨p0, 0, none⟩, r, r), (some ⟨p1, 0, none⟩, r, r)] : List Hd)).length = i + 2 by simp)
      have s0 := pw_cell_below HB5.out y0
      have s1 := pw_cell_below HB5.out y1
      have s2 := pw_cell_below HB5.out y2
      have hpy := fun (q : Nat) (hq : q < i + 2) => payL_all (k := i) (r := r) (N := N) (xs := padL xs N) (padL_len (by rw [Kd.C_len HA.out]; exact hn)) HNN.out HPX.out q hq
      have HPY := Aside0.mk hpy
      have hi32 := HF.out.k2
      clear hpy y0 y1 y2 HHd HP5
      refine start_ (n := 9) (S := fun w' => w'.cell? ⟨w.heap.size, 0, none⟩ = some (.int .i64 (i : Nat)) ∧ w'.cell? ⟨w.heap.size, 1, none⟩ = some (.int .i64 (pgs : Nat)) ∧ w'.cell? ⟨w.heap.size, 2, none⟩ = some (.int .i64 (sz : Nat))) (ds := []) #[false, false, false, false, false, false, false, false, false] (by kernel_rfl) rfl rfl ⟨s0, s1, s2⟩ (fun hHeld => ?_)
      refine with_tabW pages24.tab18 pages24.bits18 (fun HT_ HW_ => ?_)
      refine pure_ (i := 1) (N := some 81) (v := ?_) (a' := ?_) #[false, true, false, false, false, false, false, false, false] rfl rfl (any_of HT_.out (by kernel_rfl)) (fun _ _ _ h => h) (Or.inl ⟨by rfl, ?_⟩) ?_ ?_
      rotate_left
      · intro w'
        go_simp
        with_reducible rfl
      rotate_left
      · simp only [Act.put, List.setIfInBounds_toArray, List.set_cons_zero, List.set_cons_succ, i64_w, i32_w]
        rfl
      refine pure_ (i := 2) (N := some 82) (v := ?_) (a' := ?_) #[false, true, true, false, false, false, false, false, false] rfl rfl (any_of HT_.out (by kernel_rfl)) (fun _ _ _ h => h) (Or.inl ⟨by rfl, ?_⟩) ?_ ?_
      rotate_left
      · intro w'
        go_simp
        with_reducible rfl
      rotate_left
      · simp only [Act.put, List.setIfInBounds_toArray, List.set_cons_zero, List.set_cons_succ, i64_w, i32_w]
        rfl
      refine pure_ (i := 3) (N := some 83) (v := ?_) (a' := ?_) #[false, true, true, true, false, false, false, false, false] rfl rfl (any_of HT_.out (by kernel_rfl)) (fun _ _ _ h => h) (Or.inl ⟨by rfl, ?_⟩) ?_ ?_
      rotate_left
      · intro w'
        go_simp
        with_reducible rfl
      rotate_left
      · simp only [Act.put, List.setIfInBounds_toArray, List.set_cons_zero, List.set_cons_succ, i64_w, i32_w]
        rfl
      refine pure_ (i := 4) (N := some 84) (v := ?_) (a' := ?_) #[false, true, true, true, true, false, false, false, false] rfl rfl (any_of HT_.out (by kernel_rfl)) (fun _ _ _ h => h) (Or.inl ⟨by rfl, ?_⟩) ?_ ?_
      rotate_left
      · intro w'
        go_simp
        with_reducible rfl
      rotate_left
      · simp only [Act.put, List.setIfInBounds_toArray, List.set_cons_zero, List.set_cons_succ, i64_w, i32_w]
        rfl
      refine take_ (i := 0) (N := some 80) (v := ?_) (a' := ?_) #[true, true, true, true, true, false, false, false, false] rfl rfl (take_ofW HT_.out HW_.out (by kernel_rfl)) (fun _ _ _ h => h) (Or.inl ⟨by rfl, ?_⟩) hHeld ?_ ?_
      rotate_left
      · rintro w' ⟨s0, s1, s2⟩
        go_simp
        with_reducible rfl
      rotate_left
      · simp only [Act.put, List.setIfInBounds_toArray, List.set_cons_zero, List.set_cons_succ, i64_w, i32_w]
        rfl
      refine one_ (i := 5) (N := some 85) #[true, true, true, true, true, true, false, false, false] rfl rfl (one_of HT_.out (by kernel_rfl)) (by decide) (fun K hK => ?_)
      refine Kd.R_append_rows_step KH (w0 := w3) w3.heap.size (by rfl) (.tmp 83) (.tmp 84) 51 37 (.slice none 0 0) 24 rfl Try.underlying51 Go.Proofs.Ytjnicooboiijgaa.PSg.info37 rfl (by decide) (by omega) (.slice Al i cl) ((List.range i).map fun q => ((some ⟨d, q * r, none⟩, r, r) : Hd)) [(some ⟨p0, 0, none⟩, r, r), (some ⟨p1, 0, none⟩, r, r)] _ _ _ (fun _ => True) (fun _ => False) rfl rfl (Kd.R_drew HH5.out) (Kd.C_drew HK5.out) (fun _ _ h => h) (fun _ h => h.elim) (fun _ _ => trivial) (below_drew HB35.out) (below_drew HB35.out).size (by rw [List.length_map, List.length_range]; omega) ?_
      intro v6 w6 ho hb hg hat
      obtain ⟨ab, cap, ev, hab, _⟩ := Kd.R_form ho (by rw [HAL.out]; omega)
      rw [HAL.out] at ev
      subst ev
      have hRW : Rs.Rows w6 (((List.range i).map fun q => ((some ⟨d, q * r, none⟩, r, r) : Hd)) ++ ([(some ⟨p0, 0, none⟩, r, r), (some ⟨p1, 0, none⟩, r, r)] : List Hd)) (payL (padL xs N) i r) := (HRW.out.below hb).append (((HO5.out.below (below_drew (Below.refl _ _))).over (Kd.R_drew HH5.out) hg).toRows)
      have hK6 : KR.C w6 (some ⟨ab, 0, none⟩) (i + 2) (payL (padL xs N) i r) := KR_of_KH (by have h1 := Kd.R_reads' (n := (((List.range i).map fun q => ((some ⟨d, q * r, none⟩, r, r) : Hd)) ++ ([(some ⟨p0, 0, none⟩, r, r), (some ⟨p1, 0, none⟩, r, r)] : List Hd)).length) (by rw [HAL.out]; exact ho); rw [HAL.out] at h1; exact h1.2.2) hRW
      have hP44 := pages44 w6 sz seg row (i + 2) cap (i : Int) (pgs : Int) (some ⟨ab, 0, none⟩) (payL (padL xs N) i r) hK6 (fun q hq => (HPY.out q hq).2) HF.out.s1 HF.out.s2 hseg (by omega) (by omega) (fun q hq => by rw [(HPY.out q hq).1, HRR.out]; exact Nat.le_refl _)
      have HB6 := Aside0.mk hb
      refine hK.out _ _ ⟨pw_cell_below hb z0, pw_cell_below hb z1, pw_cell_below hb z2⟩ (fun hHeld => ?_)
      clear hK K
      refine norm_ (a' := ?_) ?_ ?_
      rotate_left
      · show Act.put _ (some 85) _ = _
        simp only [Act.put, List.setIfInBounds_toArray, List.set_cons_zero, List.set_cons_succ, i64_w, i32_w]
        rfl
      refine one_ (i := 6) (N := some 86) #[true, true, true, true, true, true, true, false, false] rfl rfl (one_of HT_.out (by kernel_rfl)) (by decide) (fun K hK => ?_)
      refine goes_ Try.func44 (by kernel_rfl) rfl #[.agg #[.int .i64 (i : Nat), .int .i64 (pgs : Nat), .int .i64 (sz : Nat)], .int .u64 (seg : Nat), .int .i64 (row : Nat), .slice (some ⟨ab, 0, none⟩) (i + 2 : Nat) cap] (by rfl) rfl rfl (by simp only [List.map_toArray, List.map_cons, List.map_nil]; rfl) ?_
      refine Calls.mono (hP44) ?_
      rintro e w7 ⟨v7, hs7, rfl, hH7, hO7, hb7⟩
      refine ⟨_, rfl, ?_⟩
      refine hK.out _ _ ⟨pw_cell_below hb7 (pw_cell_below HB6.out z0), pw_cell_below hb7 (pw_cell_below HB6.out z1), pw_cell_below hb7 (pw_cell_below HB6.out z2)⟩ (fun hHeld => ?_)
      clear hK K
      refine norm_ (a' := ?_) ?_ ?_
      rotate_left
      · show Act.put _ (some 86) _ = _
        simp only [Act.put, List.setIfInBounds_toArray, List.set_cons_zero, List.set_cons_succ, i64_w, i32_w]
        rfl
      refine pure_ (i := 7) (N := some 8) (v := ?_) (a' := ?_) #[true, true, true, true, true, true, true, true, false] rfl rfl (any_of HT_.out (by kernel_rfl)) (fun _ _ _ h => h) (Or.inl ⟨by rfl, ?_⟩) ?_ ?_
      rotate_left
      · intro w'
        go_simp
        with_reducible rfl
      rotate_left
      · simp only [Act.put, List.setIfInBounds_toArray, List.set_cons_zero, List.set_cons_succ, i64_w, i32_w]
        rfl
      refine pure_ (i := 8) (N := some 9) (v := ?_) (a' := ?_) #[true, true, true, true, true, true, true, true, true] rfl rfl (any_of HT_.out (by kernel_rfl)) (fun _ _ _ h => h) (Or.inl ⟨by rfl, ?_⟩) ?_ ?_
      rotate_left
      · intro w'
        go_simp
        with_reducible rfl
      rotate_left
      · simp only [Act.put, List.setIfInBounds_toArray, List.set_cons_zero, List.set_cons_succ, i64_w, i32_w]
        rfl
      refine done_ (done_of HT_.out (by kernel_rfl)) ?_
      have HB06 := below_then HB03.out HB03.out.size HB6.out
      have HE1 := Aside0.mk (Kd.R_lower hH7 HB06.size)
      have HE2 := Aside0.mk (hO7.lower HB06.size)
      have HE3 := Aside0.mk (below_then HB06 HB06.size hb7)
      clear hH7 hO7 hb7
      go_wp2_with fail
      go_ret2
      exact ⟨_, _, rfl, HE1.out, by rw [HRR.out]; exact HE2.out, HE3.out⟩
end Go.Proofs.Ytjnicooboiijgaa.Sg
end
