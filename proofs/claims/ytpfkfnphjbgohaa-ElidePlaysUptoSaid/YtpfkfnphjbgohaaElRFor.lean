/-
  The reference's Over and Forget.
-/
import Derived.Test.YtpfkfnphjbgohaaElRList
set_option linter.unusedVariables false
set_option linter.unusedSimpArgs false
namespace Go.Proofs.Ytpfkfnphjbgohaa.El
open Go.RowKit Go.Proofs.YtpfkfnphjbgohaaW.PrintWords Go.Proofs.YtpfkfnphjbgohaaW.PrintLast Go.Proofs.YtpfkfnphjbgohaaW.PrintMore Go.Proofs.Ytpfkfnphjbgohaa.PEa
attribute [local go_sem] binS_leq binS_gtr binS_geq max2_int min2_int max_two min_two maxS_two minS_two
def ovP (lo hi : ByteArray) (x : S27) : Bool := decide (lo < hi ∧ x.f0 < hi ∧ lo < x.f1)
def overF (L : List S27) (lo hi : ByteArray) : List S27 := L.filter (ovP lo hi)
def keepP (up : Int) (x : S27) : Bool := decide (up < x.f2)
def keepF (L : List S27) (up : Int) : List S27 := L.filter (keepP up)
theorem filter_take {p : S27 → Bool} {L : List S27} {m : Nat} {x : S27} (h : m < L.length) (hx : rd_T27 L (m : Int) = x) : (L.take (m + 1)).filter p = if p x = true then (L.take m).filter p ++ [x] else (L.take m).filter p := by
  have e : L.take (m + 1) = L.take m ++ [x] := by
    rw [List.take_add, List.drop_eq_getElem_cons h, ← hx]
    congr 1
    rw [show rd_T27 L (m : Int) = L[m] by simp [rd_T27, rdOf, h]]
    rfl
  rw [e, List.filter_append]
  by_cases hp : p x = true
  · rw [if_pos hp, List.filter_cons_of_pos hp]; rfl
  · rw [if_neg hp, List.filter_cons_of_neg hp]; simp
theorem refList_len (L : List S27) : (refList L).length ≤ 2 * L.length := by
  have h1 := rl_le L (bnds L) ((bnds L).length - 1)
  have h2 := bnds_len L
  unfold refList
  omega
theorem filter_le {p : S27 → Bool} {L : List S27} {m : Nat} : ((L.take m).filter p).length ≤ L.length := by
  have h1 := List.length_filter_le p (L.take m)
  rw [List.length_take] at h1
  omega
set_option maxHeartbeats 8000000 in
set_option maxRecDepth 100000 in
theorem rover32 (w : World) (g : Nat) (A : Option Addr) (c : Nat) (xs : List S27) (lo hi : ByteArray) (hs : w.heap[g]? = some (.cells #[.slice A xs.length c] 42 (0, 0))) (hC : Kd.C k27 w A xs.length xs) (hl : xs.length ≤ 400000) :
    Calls Try.prog 32 #[.pointer (some ⟨g, 0, none⟩), .string lo, .string hi] w (CloneQ w (overF (refList xs) lo hi)) := by
  have hcall := Aside0.mk (list26 w g A c xs hs hC hl)
  have hll := refList_len xs
  obtain ⟨L, hL⟩ : ∃ L, refList xs = L := ⟨_, rfl⟩
  rw [hL] at hcall hll ⊢
  obtain ⟨n, hn⟩ : ∃ n, L.length = n := ⟨_, rfl⟩
  rw [hn] at hll
  have hnl : n ≤ 800000 := by omega
  clear hs hC hll hL hl
  go_enter Try.func32, Try.ntmps32
  go_wp2_with (go_at_call 26; refine hcall.out.mono ?_; rintro r w1 ⟨vb, rfl, hRb, hB1⟩; obtain ⟨Ab, cb, eb⟩ := Kd.R_slice hRb; subst eb; have hCb := (Kd.R_reads' hRb).2.2; rw [hn] at hCb ⊢; have HC := Aside0.mk hCb; clear hCb; have HB1 := Aside0.mk hB1; clear hRb hB1)
  have HN := Aside0.mk hn
  clear hn hcall
  go_loopw [7, 9] (fun o i W => ∃ k : Nat, k ≤ n ∧ i = .int .i64 k ∧ Aside0 (Kd.R k27 27 W w1.heap.size (fun _ => True) o ((L.take k).filter (ovP lo hi))) ∧ Aside0 (Below w1.heap.size w1 W)) (fun _ i _ => n - (intOf i).toNat)
  case atStart => exact ⟨0, Nat.zero_le _, rfl, ⟨Kd.R_nil _ _ _ _ _⟩, ⟨Below.refl _ _⟩⟩
  case round =>
    obtain ⟨k, hk, rfl, HO, HB⟩ := hrel
    by_cases hkn : k < n
    · clear hk
      obtain ⟨x, hx⟩ : ∃ x, rd_T27 L (k : Int) = x := ⟨_, rfl⟩
      obtain ⟨ad, eA, x0, x1, x2⟩ := at_T27 HC.out (k : Int) (by omega) (by omega)
      subst eA
      rw [hx] at x0 x1 x2
      rw [Int.toNat_natCast] at x0 x1 x2
      replace x0 := pw_cell_below HB.out x0
      replace x1 := pw_cell_below HB.out x1
      replace x2 := pw_cell_below HB.out x2
      have HS := Aside0.mk (filter_take (p := ovP lo hi) (by rw [HN.out]; exact hkn) hx)
      have HOl := Aside0.mk (show ((L.take k).filter (ovP lo hi)).length ≤ 1000000 by have := filter_le (p := ovP lo hi) (L := L) (m := k); rw [HN.out] at this; omega)
      clear hx
      have e1 : Op.bytesLess lo.toList hi.toList = decide (lo < hi) := by
        by_cases h : lo < hi
        · rw [decide_eq_true h]; exact less_true.mpr h
        · rw [decide_eq_false h]; exact less_false.mpr (by grind)
      have e2 : Op.bytesLess x.f0.toList hi.toList = decide (x.f0 < hi) := by
        by_cases h : x.f0 < hi
        · rw [decide_eq_true h]; exact less_true.mpr h
        · rw [decide_eq_false h]; exact less_false.mpr (by grind)
      have e3 : Op.bytesLess lo.toList x.f1.toList = decide (lo < x.f1) := by
        by_cases h : lo < x.f1
        · rw [decide_eq_true h]; exact less_true.mpr h
        · rw [decide_eq_false h]; exact less_false.mpr (by grind)
      have hp : ovP lo hi x = (decide (lo < hi) && decide (x.f0 < hi) && decide (lo < x.f1)) := by unfold ovP; rw [Bool.decide_and, Bool.decide_and, Bool.and_assoc]
      generalize decide (lo < hi) = b1 at e1 hp
      generalize decide (x.f0 < hi) = b2 at e2 hp
      generalize decide (lo < x.f1) = b3 at e3 hp
      cases b1
      · have HS1 := Aside0.mk (show (L.take (k + 1)).filter (ovP lo hi) = (L.take k).filter (ovP lo hi) by rw [HS.out, hp]; rfl)
        clear HS hp
        go_wp2_with fail
        go_roundw
        case measure => simp [intOf]; omega
        case rel => exact ⟨k + 1, by omega, by go_num, ⟨by rw [HS1.out]; exact HO.out⟩, HB⟩
      · cases b2
        · have HS1 := Aside0.mk (show (L.take (k + 1)).filter (ovP lo hi) = (L.take k).filter (ovP lo hi) by rw [HS.out, hp]; rfl)
          clear HS hp
          go_wp2_with fail
          go_roundw
          case measure => simp [intOf]; omega
          case rel => exact ⟨k + 1, by omega, by go_num, ⟨by rw [HS1.out]; exact HO.out⟩, HB⟩
        · cases b3
          · have HS1 := Aside0.mk (show (L.take (k + 1)).filter (ovP lo hi) = (L.take k).filter (ovP lo hi) by rw [HS.out, hp]; rfl)
            clear HS hp
            go_wp2_with fail
            go_roundw
            case measure => simp [intOf]; omega
            case rel => exact ⟨k + 1, by omega, by go_num, ⟨by rw [HS1.out]; exact HO.out⟩, HB⟩
          · have HS1 := Aside0.mk (show (L.take (k + 1)).filter (ovP lo hi) = (L.take k).filter (ovP lo hi) ++ [x] by rw [HS.out, hp]; rfl)
            clear HS hp
            obtain ⟨ys, hys⟩ : ∃ ys, (L.take k).filter (ovP lo hi) = ys := ⟨_, rfl⟩
            rw [hys] at HO HOl HS1
            clear hys
            obtain ⟨Ao, mo, co, eo⟩ := R_slice3 HO.out
            subst eo
            go_wp2_with ((with_reducible refine gate_builtin (b := .append) (xs := #[.tmp 39, .tmp 44]) rfl ?_); refine Kd.R_append k27 w1.heap.size rfl (.tmp 39) (.tmp 44) 22 27 _ 40 rfl Try.underlying22 info27 rfl (by decide) (by decide) _ ys x [.string x.f0, .string x.f1, .int .u64 x.f2] (fun _ => True) (fun _ => False) rfl rfl (k27_mkM _ _ _ x) (fun _ h => h.elim) (fun _ _ => trivial) HO.out HB.out HB.out.size (by have := HOl.out; omega) ?_; intro v8 w8 hN8 hB8 hg8 hat8; clear hat8 hg8; have HN8 := Aside0.mk hN8; have HB8 := Aside0.mk hB8; clear hN8 hB8)
            go_roundw
            case measure => simp [intOf]; omega
            case rel => exact ⟨k + 1, by omega, by go_num, ⟨by rw [HS1.out]; exact HN8.out⟩, HB8⟩
    · obtain rfl : k = n := by omega
      have HB9 := Aside0.mk (below_then HB1.out HB1.out.size HB.out)
      have HO9 := Aside0.mk (Kd.R_lower HO.out HB1.out.size)
      rw [List.take_of_length_le (by rw [HN.out]; exact Nat.le_refl _)] at HO9
      go_wp2_with fail
      go_ret
      exact ⟨_, rfl, HO9.out, HB9.out⟩
end Go.Proofs.Ytpfkfnphjbgohaa.El
