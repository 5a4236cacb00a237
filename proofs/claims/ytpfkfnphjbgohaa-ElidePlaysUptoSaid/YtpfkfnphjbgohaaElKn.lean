/-
  The chapter's example.
-/
import Derived.Test.YtpfkfnphjbgohaaElMath
set_option linter.unusedVariables false
set_option linter.unusedSimpArgs false
namespace Go.Proofs.Ytpfkfnphjbgohaa.El
open Go.RowKit Go.Proofs.YtpfkfnphjbgohaaW.PrintWords Go.Proofs.YtpfkfnphjbgohaaW.PrintLast Go.Proofs.YtpfkfnphjbgohaaW.PrintMore Go.Proofs.Ytpfkfnphjbgohaa.PEa
attribute [local go_sem high] eqA27
def kA : S27 := ⟨⟨#[97]⟩, ⟨#[109]⟩, 5⟩
def kB : S27 := ⟨⟨#[99]⟩, ⟨#[102]⟩, 9⟩
def k0 : S27 := ⟨⟨#[97]⟩, ⟨#[99]⟩, 5⟩
def k2 : S27 := ⟨⟨#[102]⟩, ⟨#[109]⟩, 5⟩
theorem kn_ok : allOk [kA, kB] = true := by decide +kernel
theorem kn_all : addAll [kA, kB] = [k0, kB, k2] := by kernel_rfl
theorem kn_has : hasB [k0, kB, k2] ⟨#[100]⟩ 9 = true ∧ hasB [k0, kB, k2] ⟨#[100]⟩ 10 = false ∧ hasB [k0, kB, k2] ⟨#[109]⟩ 1 = false := by decide +kernel
theorem kn_new (w : World) (A : Option Addr) (c : Nat) (hC : Kd.C k27 w A 2 [kA, kB]) : Calls Try.prog 9 #[.slice A 2 c] w fun r w' => ∃ g, r = .returned (.tuple #[.pointer (some ⟨g, 0, none⟩), .int .i64 0]) ∧ Es w w' g [k0, kB, k2] := by
  refine (new9 w A c [kA, kB] hC (by decide) (fun _ k hk => ?_)).mono ?_
  · have hk : k ≤ 2 := hk
    have : k = 0 ∨ k = 1 ∨ k = 2 := by omega
    rcases this with rfl | rfl | rfl <;> decide +kernel
  · rintro r w' ⟨hb, hr⟩
    rw [if_pos kn_ok, kn_all] at hr
    exact hr
theorem kn_pln : Pln [k0, kB, k2] := by
  rw [← kn_all]
  exact (all_spec (fun x hx => by simpa using List.all_eq_true.mp kn_ok x hx)).1.pln
theorem two27 (w : World) : Reps (k27.M w w.heap.size fun _ => True) 3 [kA, kB] [.string ⟨#[97]⟩, .string ⟨#[109]⟩, .int .u64 5, .string ⟨#[99]⟩, .string ⟨#[102]⟩, .int .u64 9] := by
  have h1 := (Reps.none (k27.M w w.heap.size fun _ => True) 3).snoc (p := kA) (c := [.string ⟨#[97]⟩, .string ⟨#[109]⟩, .int .u64 5]) (k27_mkM _ _ _ kA) rfl
  have h2 := h1.snoc (p := kB) (c := [.string ⟨#[99]⟩, .string ⟨#[102]⟩, .int .u64 9]) (k27_mkM _ _ _ kB) rfl
  exact h2
set_option maxHeartbeats 8000000 in
set_option maxRecDepth 100000 in
theorem known7 (w : World) : Calls Try.prog 7 #[] w fun r w' => r = .returned (.bool true) ∧ Below w.heap.size w w' := by
  have hnew := Aside0.mk kn_new
  go_enter Try.func7, Try.ntmps7
  go_wp2_with (first
    | ((with_reducible refine gate_dst (N := 7) rfl ?_); refine Kd.R_lit k27 _ 27 ?hg (N := 7) ?hd (xs := [kA, kB]) (inner := [.string ⟨#[97]⟩, .string ⟨#[109]⟩, .int .u64 5, .string ⟨#[99]⟩, .string ⟨#[102]⟩, .int .u64 9]) (ok := fun _ => True) (okp := fun _ => True) ?hr ?hp (fun _ hk => hk) trivial (Below.refl _ _) (Nat.le_refl _) (by simp) ?_; (case hd => rfl); (case hg => rfl); (case hr => first | (go_simp; done) | (go_simp; rfl)); (case hp => exact two27 _); intro v1 w1 ho hb hg_ hnew_; clear hg_ hnew_; obtain ⟨A1, c1, e1, hc1, hC1⟩ := Kd.R_reads ho; subst e1; have HC := Aside0.mk hC1; have HB := Aside0.mk hb; clear ho hb hc1 hC1)
    | (go_at_call 9; refine (hnew.out _ _ _ HC.out).mono ?_; rintro r w2 ⟨g, rfl, hE⟩; have HE := Aside0.mk (hE.old HB.out); clear hE)
    | (go_at_call 10; refine (listE HE.out (by decide)).mono ?_; rintro r w3 ⟨v, rfl, hR, hB⟩; obtain ⟨A2, c2, e2, hc2, hC2⟩ := Kd.R_reads hR; obtain ⟨ad, eA, y0, y1, y2⟩ := at_T27 hC2 1 (by decide) (by decide); obtain ⟨ad', eA', z0, z1, z2⟩ := at_T27 hC2 2 (by decide) (by decide); obtain rfl : ad = ad' := Option.some.inj (eA.symm.trans eA'); clear eA'; subst eA e2; have y0 : w3.cell? ⟨ad.block, ad.off + 3, none⟩ = some (.string ⟨#[99]⟩) := y0; have y1 : w3.cell? ⟨ad.block, ad.off + 3 + 1, none⟩ = some (.string ⟨#[102]⟩) := y1; have y2 : w3.cell? ⟨ad.block, ad.off + 3 + 2, none⟩ = some (.int .u64 9) := y2; have z0 : w3.cell? ⟨ad.block, ad.off + 6, none⟩ = some (.string ⟨#[102]⟩) := z0; have z1 : w3.cell? ⟨ad.block, ad.off + 6 + 1, none⟩ = some (.string ⟨#[109]⟩) := z1; have z2 : w3.cell? ⟨ad.block, ad.off + 6 + 2, none⟩ = some (.int .u64 5) := z2; replace HE := Aside0.mk (HE.out.then_ hB); clear hR hB hc2 hC2)
    | (go_at_call 13; refine (hasE HE.out (by decide) kn_pln).mono ?_; rintro r w4 ⟨rfl, hE, hb⟩; replace HE := Aside0.mk hE; clear hE hb; first | rw [kn_has.1] | rw [kn_has.2.1] | rw [kn_has.2.2]))
  go_ret
  exact ⟨rfl, HE.out.below⟩
end Go.Proofs.Ytpfkfnphjbgohaa.El
