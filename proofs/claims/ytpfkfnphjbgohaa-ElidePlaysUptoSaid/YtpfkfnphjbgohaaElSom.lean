/-
  some, Over, Forget, Len of a set of elisions.
-/
import Derived.Test.YtpfkfnphjbgohaaElFgt
import Derived.Shelf.Abstract
set_option linter.unusedVariables false
set_option linter.unusedSimpArgs false
namespace Go.Proofs.Ytpfkfnphjbgohaa.El
open Go.RowKit Go.Proofs.YtpfkfnphjbgohaaW.PrintWords Go.Proofs.YtpfkfnphjbgohaaW.PrintLast Go.Proofs.YtpfkfnphjbgohaaW.PrintMore Go.Proofs.Ytpfkfnphjbgohaa.PEa
attribute [local go_sem] binS_leq binS_gtr binS_geq max2_int min2_int max_two min_two maxS_two minS_two
theorem stays_forg (gu : Nat) (up : Int) : Stays (Forg gu up) := stays_box (g := gu) (v := .int .u64 up) (t := 25) (by decide)
theorem stays_ovr (gl gh : Nat) (lo hi : ByteArray) : Stays (Ovr gl gh lo hi) := stays_and (stays_box (g := gl) (v := .string lo) (t := 9) (by decide)) (stays_box (g := gh) (v := .string hi) (t := 9) (by decide))
set_option maxHeartbeats 4000000 in
theorem some41 (w : World) (g : Nat) (A : Option Addr) (c : Nat) (xs : List S27) (gH : Nat) (capsH : Array Value) (dH : S27 → Bool) (InvH : World → Prop)
    (hs : w.heap[g]? = some (.cells #[.slice A xs.length c] 64 (0, 0))) (hC : Kd.C k27 w A xs.length xs) (hc : xs.length ≤ c) (hl : xs.length ≤ 1000000)
    (hS : Says InvH gH capsH dH) (hst : Stays InvH) (he : ∀ (args : Array Value) (w : World), (callFunc gH args).run Try.prog w = .ok (.enter gH args) w) (hI : InvH w) :
    Calls Try.prog 41 #[.pointer (some ⟨g, 0, none⟩), .func (.func gH) #[] capsH] w (CloneQ w (xs.filter dH)) := by
  have HS := Aside0.mk hs
  have HC := Aside0.mk hC
  have HI := Aside0.mk hI
  have HSt := Aside0.mk hst
  have HSa := Aside0.mk (fun gh => says53 gh gH capsH dH InvH hS hst he)
  have hst2 : ∀ gh, Stays (fun W => Holds gh gH capsH W ∧ InvH W) := fun gh => stays_and (stays_box (g := gh) (v := .func (.func gH) #[] capsH) (t := 74) (by decide)) hst
  have HSt2 := Aside0.mk hst2
  have hdd : ∀ l : List S27, l.filter (fun x => !(!dH x)) = l.filter dH := fun l => by simp
  have HDD := Aside0.mk hdd
  clear hs hC hI hst hst2 hS he hdd
  go_enter Try.func41, Try.ntmps41
  go_wp2_with (first
    | ((with_reducible refine gate_dst (N := 3) rfl ?_); refine box_event ?hg (N := 3) ?hd (cs := #[.func (.func gH) #[] capsH]) (t := 74) ?hr ?_; (case hd => rfl); (case hg => rfl); (case hr => first | (go_simp; done) | (go_simp; rfl)); intro gh hgh w1 hbox hb; have HB := Aside0.mk hb; have HX := Aside0.mk (show Holds gh gH capsH w1 from hbox); have HI1 := Aside0.mk (HSt.out.below _ _ HI.out hb); clear hb hbox hgh)
    | (go_at_call 10; refine (list10 _ g A c xs (blk_below HS.out HB.out) (Kd.C_below HC.out HB.out) hc hl).mono ?_; rintro r w2 ⟨v, rfl, hR, hb⟩; have HR := Aside0.mk (Kd.R_lower hR HB.out.size); have HB2 := Aside0.mk (below_then HB.out HB.out.size hb); have HI2 := Aside0.mk ((HSt2.out gh).below _ _ ⟨HX.out, HI1.out⟩ hb); clear hR hb HX HI1 HB)
    | (go_at_call 52; refine (delete52 w _ _ xs 53 _ (fun x => !dH x) (fun W => Holds gh gH capsH W ∧ InvH W) HR.out HB2.out hl (Go.Proofs.enters_of Try.func53 (by kernel_rfl) rfl) HI2.out (HSt2.out gh).below (HSt2.out gh).row (HSa.out gh)).mono ?_; rintro r w3 ⟨v3, rfl, hR, hb⟩; rw [HDD.out] at hR; have HR3 := Aside0.mk hR; have HB3 := Aside0.mk hb; clear hR hb))
  go_ret
  exact ⟨_, rfl, HR3.out, HB3.out⟩
theorem gone_keep (L : List S27) (up : Int) : (gone L up : Int) = (L.length : Int) - ((keepF L up).length : Int) := by
  have h : gone L up + (keepF L up).length = L.length := by
    induction L with
    | nil => rfl
    | cons x L ih =>
      unfold gone keepF at *
      cases hk : keepP up x
      · rw [List.filter_cons_of_pos (by rw [hk]; rfl), List.filter_cons_of_neg (by rw [hk]; decide)]
        simp only [List.length_cons]
        omega
      · rw [List.filter_cons_of_neg (by rw [hk]; decide), List.filter_cons_of_pos hk]
        simp only [List.length_cons]
        omega
  omega
set_option maxHeartbeats 4000000 in
theorem over31 (w : World) (g : Nat) (A : Option Addr) (c : Nat) (xs : List S27) (lo hi : ByteArray) (hs : w.heap[g]? = some (.cells #[.slice A xs.length c] 64 (0, 0))) (hC : Kd.C k27 w A xs.length xs) (hc : xs.length ≤ c) (hl : xs.length ≤ 1000000) :
    Calls Try.prog 31 #[.pointer (some ⟨g, 0, none⟩), .string lo, .string hi] w (CloneQ w (overF xs lo hi)) := by
  have HS := Aside0.mk hs
  have HC := Aside0.mk hC
  clear hs hC
  go_enter Try.func31, Try.ntmps31
  go_wp2_with (first
    | ((with_reducible refine gate_dst (N := 4) rfl ?_); refine box_event ?hg (N := 4) ?hd (cs := #[.string lo]) (t := 9) ?hr ?_; (case hd => rfl); (case hg => rfl); (case hr => first | (go_simp; done) | (go_simp; rfl)); intro gl hgl w1 hbox hb; have HB := Aside0.mk hb; have HX := Aside0.mk hbox; clear hb hbox hgl)
    | ((with_reducible refine gate_dst (N := 5) rfl ?_); refine box_event ?hg (N := 5) ?hd (cs := #[.string hi]) (t := 9) ?hr ?_; (case hd => rfl); (case hg => rfl); (case hr => first | (go_simp; done) | (go_simp; rfl)); intro gh hgh w2 hbox hb; have HB2 := Aside0.mk (below_then HB.out HB.out.size hb); have HX2 := Aside0.mk (show Ovr gl gh lo hi w2 from ⟨blk_below HX.out hb, hbox⟩); clear hb hbox hgh HB HX)
    | (go_at_call 41; refine (some41 _ g A c xs 47 _ (ovP lo hi) (Ovr gl gh lo hi) (blk_below HS.out HB2.out) (Kd.C_below HC.out HB2.out) hc hl (says47 gl gh lo hi) (stays_ovr gl gh lo hi) (Go.Proofs.enters_of Try.func47 (by kernel_rfl) rfl) HX2.out).mono ?_; rintro r w3 ⟨v3, rfl, hR, hb⟩; have HR3 := Aside0.mk (Kd.R_lower hR HB2.out.size); have HB3 := Aside0.mk (below_then HB2.out HB2.out.size hb); clear hR hb))
  go_ret
  exact ⟨_, rfl, HR3.out, HB3.out⟩
set_option maxHeartbeats 4000000 in
theorem len27 (w : World) (g : Nat) (A : Option Addr) (n c : Nat) (hs : w.heap[g]? = some (.cells #[.slice A n c] 64 (0, 0))) :
    Calls Try.prog 27 #[.pointer (some ⟨g, 0, none⟩)] w fun r w' => r = .returned (.int .i64 (n : Int)) ∧ Below w.heap.size w w' := by
  have hcg := cell_of_one hs
  clear hs
  go_enter Try.func27, Try.ntmps27
  go_wp2_with fail
  go_ret
  exact ⟨rfl, Below.refl _ _⟩
theorem NewRow_put {t : TypeId} (ht : ∀ q, q ∈ 27 :: k27.E → q ≠ t) {w w3 : World} {g : Nat} {v v3 : Value} {ys : List S27} (h : w.heap[g]? = some (.cells #[v] t (0, 0))) (hB : Below w.heap.size w w3) (hR3 : Kd.R k27 27 w3 w.heap.size (fun _ => True) v3 ys) : NewRow t w g ys (w3.setCell ⟨g, 0, none⟩ v3) := by
  have hb3 := blk_below h hB
  refine ⟨v3, one_setCell hb3, Kd.R_set hR3 hb3 ht 0 v3, hB.os, hB.tape, hB.output, ?_, ?_⟩
  · have := hB.size
    have h4 : (w3.setCell ⟨g, 0, none⟩ v3).heap.size = w3.heap.size := by simp [World.setCell]
    omega
  · intro i hi hne
    rw [Below.heap_setCell w3 ⟨g, 0, none⟩ v3 i (by intro e; subst e; exact hne rfl)]
    exact hB.block i hi
set_option maxHeartbeats 4000000 in
theorem forget24 (w : World) (g : Nat) (A : Option Addr) (c : Nat) (xs : List S27) (up : Int) (hs : w.heap[g]? = some (.cells #[.slice A xs.length c] 64 (0, 0))) (hC : Kd.C k27 w A xs.length xs) (hc : xs.length ≤ c) (hl : xs.length ≤ 1000000) :
    Calls Try.prog 24 #[.pointer (some ⟨g, 0, none⟩), .int .u64 up] w fun r w' => r = .returned (.int .i64 (gone xs up)) ∧ NewRow 64 w g (keepF xs up) w' := by
  have HS := Aside0.mk hs
  have HC := Aside0.mk hC
  have HG := Aside0.mk (gone_keep xs up)
  have hkl : (keepF xs up).length ≤ xs.length := List.length_filter_le _ _
  obtain ⟨m, hm⟩ : ∃ m, (keepF xs up).length = m := ⟨_, rfl⟩
  rw [hm] at hkl HG
  obtain ⟨ys, hys⟩ : ∃ ys, keepF xs up = ys := ⟨_, rfl⟩
  rw [hys] at hm ⊢
  have HM := Aside0.mk hm
  have HY := Aside0.mk hys
  obtain ⟨n, hn⟩ : ∃ n, xs.length = n := ⟨_, rfl⟩
  rw [hn] at hkl HG hl hc
  have HN := Aside0.mk hn
  clear hs hC hm hys
  rw [hn] at HS HC
  clear hn
  go_enter Try.func24, Try.ntmps24
  go_wp2_with (first
    | ((with_reducible refine gate_dst (N := 3) rfl ?_); refine box_event ?hg (N := 3) ?hd (cs := #[.int .u64 up]) (t := 25) ?hr ?_; (case hd => rfl); (case hg => rfl); (case hr => first | (go_simp; done) | (go_simp; rfl)); intro gu hgu w1 hbox hb; have HB := Aside0.mk hb; have HX := Aside0.mk (show Forg gu up w1 from hbox); have hcg := cell_of_one (blk_below HS.out hb); clear hb hbox hgu)
    | (go_at_call 41; refine (some41 _ g A c xs 42 _ (keepP up) (Forg gu up) (by rw [HN.out]; exact blk_below HS.out HB.out) (by rw [HN.out]; exact Kd.C_below HC.out HB.out) (by rw [HN.out]; exact hc) (by rw [HN.out]; exact hl) (says42 gu up) (stays_forg gu up) (Go.Proofs.enters_of Try.func42 (by kernel_rfl) rfl) HX.out).mono ?_; rintro r w3 ⟨v3, rfl, hR, hb⟩; rw [show xs.filter (keepP up) = ys from HY.out] at hR; obtain ⟨A3, c3, e3⟩ := Kd.R_slice hR; subst e3; rw [HM.out] at hR ⊢; have HR3 := Aside0.mk (Kd.R_lower hR HB.out.size); have HB3 := Aside0.mk (below_then HB.out HB.out.size hb); have hcg3 := cell_of_one (blk_below HS.out HB3.out); have hfg3 := free_of_one (blk_below HS.out HB3.out); clear hR hb hcg))
  go_ret
  refine ⟨by rw [HG.out]; rfl, NewRow_put (by decide) HS.out HB3.out HR3.out⟩
end Go.Proofs.Ytpfkfnphjbgohaa.El
