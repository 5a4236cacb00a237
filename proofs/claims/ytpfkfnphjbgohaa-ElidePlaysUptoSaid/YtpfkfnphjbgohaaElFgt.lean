/-
  some, Over, Forget, Len of a set of elisions.
-/
import Derived.Test.YtpfkfnphjbgohaaElDel
import Derived.Test.YtpfkfnphjbgohaaElRFg
set_option linter.unusedVariables false
set_option linter.unusedSimpArgs false
namespace Go.Proofs.Ytpfkfnphjbgohaa.El
open Go.RowKit Go.Proofs.YtpfkfnphjbgohaaW.PrintWords Go.Proofs.YtpfkfnphjbgohaaW.PrintLast Go.Proofs.YtpfkfnphjbgohaaW.PrintMore Go.Proofs.Ytpfkfnphjbgohaa.PEa
attribute [local go_sem] binS_leq binS_gtr binS_geq max2_int min2_int max_two min_two maxS_two minS_two
/-- A fact of boxes that rows of elisions do not touch. -/
structure Stays (Inv : World → Prop) : Prop where
  below : ∀ W W' : World, Inv W → Below W.heap.size W W' → Inv W'
  row : ∀ (W W' : World) (b : Nat) (cells : Array Value), Inv W → W.heap[b]? = some (.cells cells 27 (0, 0)) → W.grownBy W' (some b) → Inv W'
theorem stays_box {g : Nat} {v : Value} {t : TypeId} (ht : t ≠ 27) : Stays (fun W => W.heap[g]? = some (.cells #[v] t (0, 0))) where
  below _ _ h hb := blk_below h hb
  row W W' b cells h hc hg := by
    refine (hg.block g (blk_lt h) ?_).trans h
    intro e
    injection e with e
    subst e
    rw [h] at hc
    simp at hc
    exact ht hc.2
theorem stays_and {I J : World → Prop} (hi : Stays I) (hj : Stays J) : Stays (fun W => I W ∧ J W) where
  below W W' h hb := ⟨hi.below W W' h.1 hb, hj.below W W' h.2 hb⟩
  row W W' b cells h hc hg := ⟨hi.row W W' b cells h.1 hc hg, hj.row W W' b cells h.2 hc hg⟩
def Forg (gu : Nat) (up : Int) (W : World) : Prop := W.heap[gu]? = some (.cells #[.int .u64 up] 25 (0, 0))
set_option maxHeartbeats 4000000 in
theorem says42 (gu : Nat) (up : Int) : Says (Forg gu up) 42 #[.pointer (some ⟨gu, 0, none⟩)] (keepP up) := by
  intro x W hI
  have hu := cell_of_one hI
  have hua := pw_cell_below (below_alloc (Below.refl W.heap.size W) (.cells #[.string x.f0, .string x.f1, .int .u64 x.f2] 27)) hu
  have hbx := box_cells (show box27 (W.alloc (.cells #[.string x.f0, .string x.f1, .int .u64 x.f2] 27)) W.heap.size x from blk_new W _)
  have HB := Aside0.mk (below_alloc (Below.refl W.heap.size W) (.cells #[.string x.f0, .string x.f1, .int .u64 x.f2] 27))
  have hK : keepP up x = decide (up < x.f2) := rfl
  rw [hK]
  clear hK hI
  show Calls Try.prog 42 #[.agg #[.string x.f0, .string x.f1, .int .u64 x.f2], .pointer (some ⟨gu, 0, none⟩)] W _
  go_enter Try.func42, Try.ntmps42
  go_wp2_with fail
  go_ret
  exact ⟨rfl, HB.out⟩
def Ovr (gl gh : Nat) (lo hi : ByteArray) (W : World) : Prop := W.heap[gl]? = some (.cells #[.string lo] 9 (0, 0)) ∧ W.heap[gh]? = some (.cells #[.string hi] 9 (0, 0))
set_option maxHeartbeats 4000000 in
theorem says47 (gl gh : Nat) (lo hi : ByteArray) : Says (Ovr gl gh lo hi) 47 #[.pointer (some ⟨gl, 0, none⟩), .pointer (some ⟨gh, 0, none⟩)] (ovP lo hi) := by
  intro x W hI
  have hu := cell_of_one hI.1
  have hv := cell_of_one hI.2
  have hua := pw_cell_below (below_alloc (Below.refl W.heap.size W) (.cells #[.string x.f0, .string x.f1, .int .u64 x.f2] 27)) hu
  have hva := pw_cell_below (below_alloc (Below.refl W.heap.size W) (.cells #[.string x.f0, .string x.f1, .int .u64 x.f2] 27)) hv
  have hbx := box_cells (show box27 (W.alloc (.cells #[.string x.f0, .string x.f1, .int .u64 x.f2] 27)) W.heap.size x from blk_new W _)
  have HB := Aside0.mk (below_alloc (Below.refl W.heap.size W) (.cells #[.string x.f0, .string x.f1, .int .u64 x.f2] 27))
  have e1 : Op.bytesLess lo.toList hi.toList = decide (lo < hi) := by
    by_cases h : lo < hi
    · rw [decide_eq_true h]; exact less_true.mpr h
    · rw [decide_eq_false h]; exact less_false.mpr (by grind)
  have e2 : Op.bytesLess x.f0.toList hi.toList = decide (x.f0 < hi) := by
    by_cases h : x.f0 < hi
    · rw [decide_eq_true h]; exact less_true.mpr h
    · rw [decide_eq_false h]; exact less_false.mpr (by grind)
  have e3 : Op.bytesLess lo.toList x.f1.toList = decide (lo < x.f1) := by
    by_cases h : lo < x.f1
    · rw [decide_eq_true h]; exact less_true.mpr h
    · rw [decide_eq_false h]; exact less_false.mpr (by grind)
  have hp : ovP lo hi x = (decide (lo < hi) && decide (x.f0 < hi) && decide (lo < x.f1)) := by unfold ovP; rw [Bool.decide_and, Bool.decide_and, Bool.and_assoc]
  generalize decide (lo < hi) = b1 at e1 hp
  generalize decide (x.f0 < hi) = b2 at e2 hp
  generalize decide (lo < x.f1) = b3 at e3 hp
  rw [hp]
  clear hp hI
  show Calls Try.prog 47 #[.agg #[.string x.f0, .string x.f1, .int .u64 x.f2], .pointer (some ⟨gl, 0, none⟩), .pointer (some ⟨gh, 0, none⟩)] W _
  cases b1
  · go_enter Try.func47, Try.ntmps47
    go_wp2_with fail
    go_ret
    exact ⟨rfl, HB.out⟩
  · cases b2
    · go_enter Try.func47, Try.ntmps47
      go_wp2_with fail
      go_ret
      exact ⟨rfl, HB.out⟩
    · go_enter Try.func47, Try.ntmps47
      go_wp2_with fail
      go_ret
      exact ⟨rfl, HB.out⟩
def Holds (gh g : Nat) (caps : Array Value) (W : World) : Prop := W.heap[gh]? = some (.cells #[.func (.func g) #[] caps] 74 (0, 0))
set_option maxHeartbeats 4000000 in
theorem says53 (gh g : Nat) (caps : Array Value) (d : S27 → Bool) (Inv : World → Prop) (hs : Says Inv g caps d) (hst : Stays Inv) (he : ∀ (args : Array Value) (w : World), (callFunc g args).run Try.prog w = .ok (.enter g args) w) :
    Says (fun W => Holds gh g caps W ∧ Inv W) 53 #[.pointer (some ⟨gh, 0, none⟩)] (fun x => !d x) := by
  intro x W hI
  have hcall := hs x (W.alloc (.cells #[.string x.f0, .string x.f1, .int .u64 x.f2] 27)) (hst.below _ _ hI.2 (below_alloc (Below.refl _ _) _))
  have hu := cell_of_one hI.1
  have hua := pw_cell_below (below_alloc (Below.refl W.heap.size W) (.cells #[.string x.f0, .string x.f1, .int .u64 x.f2] 27)) hu
  have hbx := box_cells (show box27 (W.alloc (.cells #[.string x.f0, .string x.f1, .int .u64 x.f2] 27)) W.heap.size x from blk_new W _)
  have HB := Aside0.mk (below_alloc (Below.refl W.heap.size W) (.cells #[.string x.f0, .string x.f1, .int .u64 x.f2] 27))
  clear hI hs hst
  show Calls Try.prog 53 #[.agg #[.string x.f0, .string x.f1, .int .u64 x.f2], .pointer (some ⟨gh, 0, none⟩)] W _
  go_enter Try.func53, Try.ntmps53
  go_wp2_with (refine hcall.mono ?_; rintro e w2 ⟨rfl, hb⟩; have HB2 := Aside0.mk (below_then HB.out HB.out.size hb); clear hb)
  go_ret
  exact ⟨rfl, HB2.out⟩
end Go.Proofs.Ytpfkfnphjbgohaa.El
