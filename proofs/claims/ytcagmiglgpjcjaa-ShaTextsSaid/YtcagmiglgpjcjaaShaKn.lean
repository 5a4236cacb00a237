/-
  The walk of known: the chapter's two examples.
-/
import Derived.Test.YtcagmiglgpjcjaaShaStr
import Derived.Test.YtcagmiglgpjcjaaShaSum8
import Derived.Lib.SlBytesConst
set_option linter.unusedVariables false
set_option linter.unusedSimpArgs false
namespace Go.Proofs.Ytcagmiglgpjcjaa.Sh
open Go.RowKit Go.Proofs.YtcagmiglgpjcjaaW.PrintWords Go.Proofs.YtcagmiglgpjcjaaW.PrintLast Go.Proofs.YtcagmiglgpjcjaaW.PrintMore Go.Proofs.Ytcagmiglgpjcjaa.PSa

theorem KR_one {w : World} {q c : Nat} {A : Option Addr} {l : List Int} {fr : Nat × Nat} (h : w.heap[q]? = some (.cells #[.slice A l.length c] 23 fr)) (hc : l.length ≤ c) (hC : KBs.C w A l.length l) : KR.C w (some ⟨q, 0, none⟩) 1 [l] :=
  ⟨rfl, by decide, fun _ => ⟨_, rfl, fun j p hj => by
    match j, hj with
    | 0, hj =>
      injection hj with hj
      subst hj
      refine ⟨[.slice A l.length c], rfl, ⟨_, _, rfl, hc, hC⟩, fun i u hu => ?_⟩
      match i, hu with
      | 0, hu =>
        injection hu with hu
        subst hu
        rw [Addr.add_mid, cell_of_row _ q _ _ 23 fr h]
        rfl⟩⟩
theorem KR_two {w : World} {q c c' : Nat} {A A' : Option Addr} {l l' : List Int} {fr : Nat × Nat} (h : w.heap[q]? = some (.cells #[.slice A l.length c, .slice A' l'.length c'] 23 fr)) (hc : l.length ≤ c) (hC : KBs.C w A l.length l) (hc' : l'.length ≤ c') (hC' : KBs.C w A' l'.length l') : KR.C w (some ⟨q, 0, none⟩) 2 [l, l'] :=
  ⟨rfl, by decide, fun _ => ⟨_, rfl, fun j p hj => by
    match j, hj with
    | 0, hj =>
      injection hj with hj
      subst hj
      refine ⟨[.slice A l.length c], rfl, ⟨_, _, rfl, hc, hC⟩, fun i u hu => ?_⟩
      match i, hu with
      | 0, hu =>
        injection hu with hu
        subst hu
        rw [Addr.add_mid, cell_of_row _ q _ _ 23 fr h]
        rfl
    | 1, hj =>
      injection hj with hj
      subst hj
      refine ⟨[.slice A' l'.length c'], rfl, ⟨_, _, rfl, hc', hC'⟩, fun i u hu => ?_⟩
      match i, hu with
      | 0, hu =>
        injection hu with hu
        subst hu
        rw [Addr.add_mid, cell_of_row _ q _ _ 23 fr h]
        rfl⟩⟩
set_option maxRecDepth 1000000 in
theorem sum_nil : strOfNums (hexs (sum []) 32) = { data := #[101, 51, 98, 48, 99, 52, 52, 50, 57, 56, 102, 99, 49, 99, 49, 52, 57, 97, 102, 98, 102, 52, 99, 56, 57, 57, 54, 102, 98, 57, 50, 52, 50, 55, 97, 101, 52, 49, 101, 52, 54, 52, 57, 98, 57, 51, 52, 99, 97, 52, 57, 53, 57, 57, 49, 98, 55, 56, 53, 50, 98, 56, 53, 53] } ∧ (List.range 32).all (fun i => decide (0 ≤ at32 (sum []) i) && decide (at32 (sum []) i < 256)) = true := by decide +kernel
set_option maxRecDepth 1000000 in
theorem sum_abc : strOfNums (hexs (sum [97, 98, 99]) 32) = { data := #[98, 97, 55, 56, 49, 54, 98, 102, 56, 102, 48, 49, 99, 102, 101, 97, 52, 49, 52, 49, 52, 48, 100, 101, 53, 100, 97, 101, 50, 50, 50, 51, 98, 48, 48, 51, 54, 49, 97, 51, 57, 54, 49, 55, 55, 97, 57, 99, 98, 52, 49, 48, 102, 102, 54, 49, 102, 50, 48, 48, 49, 53, 97, 100] } ∧ (List.range 32).all (fun i => decide (0 ≤ at32 (sum [97, 98, 99]) i) && decide (at32 (sum [97, 98, 99]) i < 256)) = true := by decide +kernel
theorem range_of {l : List Int} (h : (List.range 32).all (fun i => decide (0 ≤ at32 l i) && decide (at32 l i < 256)) = true) : ∀ i, i < 32 → 0 ≤ at32 l i ∧ at32 l i < 256 := by
  intro i hi
  have := (List.all_eq_true.1 h) i (List.mem_range.2 hi)
  simpa using this
set_option maxRecDepth 100000 in
set_option maxHeartbeats 40000000 in
theorem known7 (w : World) : Calls Try.prog 7 #[] w fun e w' => e = .returned (.bool true) ∧ Below w.heap.size w w' := by
  have H1 := Aside0.mk (fun W : World => ssum8 W [] none 0 0 ⟨rfl, by decide, fun h => absurd h (by decide)⟩ rfl (by decide) (by decide))
  have H2 := Aside0.mk (fun W : World => str16 W (sum []) (sum_length _) (range_of sum_nil.2))
  have H3 := Aside0.mk (fun W : World => str16 W (sum [97, 98, 99]) (sum_length _) (range_of sum_abc.2))
  go_enter Try.func7, Try.ntmps7
  have hcv := fun (w : World) (C : Array Value) (n c : Nat) => Go.Lib.run_convert_bytes_const (P := Try.prog) w 23 5 C n c Try.underlying23 Try.underlying5
  have H4 := Aside0.mk (show ∀ W2 : World, ∀ W : World, W = (W2.alloc (.cells #[.int .u8 97, .int .u8 98, .int .u8 99] 5 (3, 4))).alloc (.cells #[.slice (some ⟨W2.heap.size, 0, none⟩) 3 3] 23) → Calls Try.prog 8 #[.slice (some ⟨W2.heap.size + 1, 0, none⟩) 1 1] W fun e w' => e = .returned (.agg (u8s (sum [97, 98, 99]))) ∧ Below W.heap.size W w' from fun W2 W hW => by
    have s1 : (W2.alloc (.cells #[.int .u8 97, .int .u8 98, .int .u8 99] 5 (3, 4))).heap.size = W2.heap.size + 1 := by show (W2.heap.push _).size = _; simp
    have hk : KR.C W (some ⟨W2.heap.size + 1, 0, none⟩) 1 [[97, 98, 99]] := by
      refine KR_one (A := some ⟨W2.heap.size, 0, none⟩) (c := 3) (fr := (0, 0)) ?_ (by decide) (C_blk (t := 5) (fr := (3, 4)) ?_ (by decide))
      · rw [hW, ← s1]; exact blk_new _ _
      · rw [hW]; exact blkalloc (blk_new W2 _) _
    exact ssum8 W [[97, 98, 99]] _ 1 1 hk rfl (by decide) (by decide))
  go_wp2_with (first
    | (go_at_call 8; refine (H1.out _).mono ?_; rintro e w1 ⟨rfl, hb1⟩; clear H1)
    | (go_at_call 16; with_reducible refine (H2.out _).mono ?_; rintro e w2 ⟨rfl, hb2⟩; clear H2; rw [sum_nil.1])
    | (go_at_call 8; refine (H4.out w2 _ (by rfl)).mono ?_; rintro e w3 ⟨rfl, hb3⟩; clear H4)
    | (go_at_call 16; with_reducible refine (H3.out _).mono ?_; rintro e w4 ⟨rfl, hb4⟩; clear H3; rw [sum_abc.1]))
  go_ret
  refine ⟨rfl, ?_⟩
  have b2 := below_then hb1 hb1.size hb2
  have b3 := below_then ((b2.alloc b2.size (.cells #[.int .u8 97, .int .u8 98, .int .u8 99] 5 (3, 4))).alloc (b2.alloc b2.size (.cells #[.int .u8 97, .int .u8 98, .int .u8 99] 5 (3, 4))).size (.cells #[.slice (some ⟨w2.heap.size, 0, none⟩) 3 3] 23)) ((b2.alloc b2.size (.cells #[.int .u8 97, .int .u8 98, .int .u8 99] 5 (3, 4))).alloc (b2.alloc b2.size (.cells #[.int .u8 97, .int .u8 98, .int .u8 99] 5 (3, 4))).size (.cells #[.slice (some ⟨w2.heap.size, 0, none⟩) 3 3] 23)).size hb3
  exact below_then b3 b3.size hb4
end Go.Proofs.Ytcagmiglgpjcjaa.Sh
