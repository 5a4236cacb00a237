/-
  The walk of sha.Sum.
-/
import Derived.Test.YtcagmiglgpjcjaaShaSum
set_option linter.unusedVariables false
set_option linter.unusedSimpArgs false
namespace Go.Proofs.Ytcagmiglgpjcjaa.Sh
open Go.RowKit Go.Proofs.YtcagmiglgpjcjaaW.PrintWords Go.Proofs.YtcagmiglgpjcjaaW.PrintLast Go.Proofs.YtcagmiglgpjcjaaW.PrintMore Go.Proofs.Ytcagmiglgpjcjaa.PSa

set_option maxRecDepth 100000 in
set_option maxHeartbeats 40000000 in
theorem ssum8 (w : World) (l : List (List Int)) (A : Option Addr) (c n : Nat) (hC : KR.C w A n l) (hl : l.length = n) (h1 : n ≤ 1000000) (hn : l.flatten.length ≤ 800000) :
    Calls Try.prog 8 #[.slice A n c] w fun e w' => e = .returned (.agg (u8s (sum l.flatten))) ∧ Below w.heap.size w w' := by
  subst hl
  have HN := Aside0.mk hn
  have HC := Aside0.mk hC
  have HI := Aside0.mk (show ∀ l : List Int, l.length = 32 → (Try.prog.info? 25).map (·.size) = some (u8s l).size from fun l hl => by rw [u8s_size, hl]; exact zero25.2)
  clear hn hC
  go_enter Try.func8, Try.ntmps8
  go_wp2_with (first
    | ((with_reducible refine gate_dst (N := 2) rfl ?_); refine step_alloc rfl 25 rfl (u8s z32) zero25.1 ?_)
    | (go_at_call 11; refine (new11 _).mono ?_; rintro e w2 ⟨rfl, hb2, hD2⟩))
  have HS := Aside0.mk (show Sg w w2 (w.heap.size + 1) [] 0 from by
    have e : (w.alloc (.cells (u8s z32) 25)).heap.size = w.heap.size + 1 := by show (w.heap.push _).size = _; simp
    have hlt : w.heap.size < (w.alloc (.cells (u8s z32) 25)).heap.size := heap_lt (blk_new w _)
    rw [← e]
    exact ⟨below_then ((Below.refl _ _).alloc (Nat.le_refl _) _) (by omega) hb2, hlt, (hb2.block _ hlt).trans (blk_new w _), hD2⟩)
  clear hb2 hD2
  generalize w.heap.size + 1 = g2 at *
  go_loopw [9, 5] (fun i _ wr => ∃ k : Nat, k ≤ l.length ∧ i = .int .i64 (k : Nat) ∧ Sg w wr g2 (joinK l k) (joinK l k).length) (fun i _ _ => l.length - (intOf i).toNat)
  case atStart => exact ⟨0, by omega, rfl, HS.out⟩
  case round =>
    clear HS
    obtain ⟨k, hk, rfl, hS⟩ := hrel
    by_cases hlt : k < l.length
    · obtain ⟨ad, A', c', rfl, hcell, hle, hI⟩ := rows_at (Kd.C_below HC.out hS.below) hlt
      have hj := joinK_le l (k + 1)
      rw [joinK_succ l k hlt, List.length_append] at hj
      have hn := HN.out
      have HW := Aside0.mk (hS.write A' (row l k) c' hI hle (by omega) (by omega))
      have HJ := Aside0.mk (joinK_succ l k hlt)
      have q1 : (0 : Int) ≤ (k : Int) := by omega
      have q2 : (k : Int) < (l.length : Int) := by omega
      clear hS hI hj hn
      go_wp2_with (go_at_call 12; refine HW.out.mono ?_; rintro e w3 ⟨rfl, hS3⟩)
      go_roundw
      case rel => exact ⟨k + 1, by omega, by go_num, by rw [HJ.out, List.length_append]; exact hS3⟩
      case measure => simp [intOf]; omega
    · obtain rfl : k = l.length := by omega
      rw [joinK_all] at hS
      have HD := Aside0.mk (dsum13 wr g2 l.flatten hS.x HN.out)
      have HS := Aside0.mk hS
      have hsl := sum_length l.flatten
      generalize hO : sum l.flatten = O at HD hsl
      have HO := Aside0.mk hO
      clear hS hO
      go_wp2_with (first
        | (go_at_call 13; refine HD.out.mono ?_; rintro e w3 ⟨rfl, hB3⟩; have HR3 := Aside0.mk ((hB3.block _ (heap_lt HS.out.hr)).trans HS.out.hr); have HB3 := Aside0.mk (below_then HS.out.below HS.out.below.size hB3))
        | ((with_reducible refine gate_store (t := 25) (p := 2) (v := .tmp 18) rfl ?_); refine wpList_store_row rfl 25 (.tmp 2) (.tmp 18) rfl w.heap.size (u8s O) rfl rfl 25 (u8s z32) HR3.out (HI.out O hsl) (by rw [u8s_size, u8s_size, hsl]; rfl) (u8s_one O) ?_))
      (try simp only [Exit.inBlock, Exit.then])
      refine bodyPost_ret (results_cell_row rfl _ _ w.heap.size 25 (u8s O) (0, 0) _ rfl (setRow_heap w3 _ _ _ 25 _ HR3.out) Try.underlying25 rfl (HI.out O hsl)) rfl ?_
      exact ⟨by rw [HO.out], below_setRow HB3.out (Nat.le_refl _) _⟩
end Go.Proofs.Ytcagmiglgpjcjaa.Sh
