/-
  Clone and List of a set.
-/
import Derived.Test.YtpfkfnphjbgohaaElAdd
import Derived.WalkSpells
set_option linter.unusedVariables false
set_option linter.unusedSimpArgs false
namespace Go.Proofs.Ytpfkfnphjbgohaa.El
open Go.RowKit Go.Proofs.YtpfkfnphjbgohaaW.PrintWords Go.Proofs.YtpfkfnphjbgohaaW.PrintLast Go.Proofs.YtpfkfnphjbgohaaW.PrintMore Go.Proofs.Ytpfkfnphjbgohaa.PEa
def CloneQ (w : World) (xs : List S27) (r : Ending) (w' : World) : Prop := ∃ v', r = .returned v' ∧ Kd.R k27 27 w' w.heap.size (fun _ => True) v' xs ∧ Below w.heap.size w w'
theorem K_M {W : World} {base : Nat} {ok : Nat → Prop} (x : S27) (cs : List Value) (h : k27.K W x cs) : k27.M W base ok x cs := by
  obtain rfl := k27_open h
  exact k27_mkM _ _ _ _
set_option maxHeartbeats 4000000 in
theorem clone33 (w : World) (A : Option Addr) (c : Nat) (xs : List S27) (hC : Kd.C k27 w A xs.length xs) (hc : xs.length ≤ c) (hl : xs.length ≤ 1000000) :
    Calls Try.prog 33 #[.slice A xs.length c] w (CloneQ w xs) := by
  rcases A with _ | ad
  · have hx : xs = [] := by
      rcases xs with _ | ⟨x, xs⟩
      · rfl
      · obtain ⟨ad, e, _⟩ := hC.2.2 (by simp)
        cases e
    subst hx
    have heq : ∀ W : World, (binOp .eql 22 (.slice none 0 c) (.slice none 0 0)).run Try.prog W = .ok (.bool true) W := fun W => by kernel_rfl
    clear hC hc hl
    go_enter Try.func33, Try.ntmps33
    go_wp2_with fail
    go_ret
    exact ⟨_, rfl, Kd.R_nil _ _ _ _ _, Below.refl _ _⟩
  · obtain ⟨n, hn⟩ : ∃ n, xs.length = n := ⟨_, rfl⟩
    rw [hn] at hC hc hl ⊢
    have heq : ∀ W : World, (binOp .eql 22 (.slice (some ad) n c) (.slice none 0 0)).run Try.prog W = .ok (.bool false) W := fun W => by kernel_rfl
    have HC := Aside0.mk hC
    have HN := Aside0.mk hn
    clear hC hn hc
    go_enter Try.func33, Try.ntmps33
    go_wp2_with (first
      | ((with_reducible refine gate_dst (N := 5) rfl ?_); refine Kd.R_lit k27 _ 27 ?hg (N := 5) ?hd (xs := ([] : List S27)) (inner := []) (ok := fun _ => True) (okp := fun _ => True) ?hr ?hp (fun _ hk => hk) trivial (Below.refl _ _) (Nat.le_refl _) (by simp) ?_; (case hd => rfl); (case hg => rfl); (case hr => first | (go_simp; done) | (go_simp; rfl)); (case hp => exact (Reps.none _ _)); intro v1 w1 ho hb hg_ hnew_; clear hg_ hnew_; have HO := Aside0.mk ho; have HB := Aside0.mk hb; clear ho hb)
      | ((with_reducible refine gate_builtin (b := .append) (xs := #[.tmp 5, .tmp 6]) rfl ?_); refine Kd.R_append_rows k27 (Rr := k27.K _) w.heap.size rfl (.tmp 5) (.tmp 6) 22 27 _ 40 rfl Try.underlying22 info27 rfl (by decide) (by decide) _ [] xs (some ad) n c (fun _ => True) (fun _ => False) rfl rfl HO.out (Kd.C_below HC.out HB.out) (fun x cs h => K_M x cs h) (fun _ h => h.elim) (fun _ _ => trivial) HB.out HB.out.size (by simp; omega) ?_; intro v2 w2 hR2 hB2 hg2 hat; clear hat hg2; have HR := Aside0.mk hR2; have HB2 := Aside0.mk hB2; clear hR2 hB2))
    go_ret
    exact ⟨_, rfl, HR.out, HB2.out⟩
set_option maxHeartbeats 4000000 in
theorem list10 (w : World) (g : Nat) (A : Option Addr) (c : Nat) (xs : List S27) (hs : w.heap[g]? = some (.cells #[.slice A xs.length c] 64 (0, 0))) (hC : Kd.C k27 w A xs.length xs) (hc : xs.length ≤ c) (hl : xs.length ≤ 1000000) :
    Calls Try.prog 10 #[.pointer (some ⟨g, 0, none⟩)] w (CloneQ w xs) := by
  have hcall := Aside0.mk (clone33 w A c xs hC hc hl)
  have hcell := cell_of_one hs
  generalize xs.length = n at *
  clear hs hC hc hl
  go_enter Try.func10, Try.ntmps10
  go_wp2_with (go_at_call 33; refine hcall.out.mono ?_; rintro r w2 ⟨v, rfl, hR, hB⟩; obtain ⟨A1, n1, c1, e1⟩ := R_slice3 hR; subst e1; have HR := Aside0.mk hR; have HB := Aside0.mk hB; clear hR hB)
  go_ret
  exact ⟨_, rfl, HR.out, HB.out⟩
end Go.Proofs.Ytpfkfnphjbgohaa.El
