/-
  The closure of Add that lays a stretch behind those that were laid.
-/
import Derived.Test.YtpfkfnphjbgohaaPEax2
set_option linter.unusedVariables false
set_option linter.unusedSimpArgs false
namespace Go.Proofs.Ytpfkfnphjbgohaa.El
open Go.RowKit Go.Proofs.YtpfkfnphjbgohaaW.PrintWords Go.Proofs.YtpfkfnphjbgohaaW.PrintLast Go.Proofs.YtpfkfnphjbgohaaW.PrintMore Go.Proofs.Ytpfkfnphjbgohaa.PEa
attribute [local go_sem] binS_leq binS_gtr binS_geq max_two min_two maxS_two minS_two
theorem info27 : (Try.prog.info? 27).map (fun i => (i.zero, i.size, i.bytes)) = some (some (.agg #[.string ⟨#[]⟩, .string ⟨#[]⟩, .int .u64 0]), 3, 40) := by kernel_rfl
/-- What it lays: nothing, or the last stretch goes on, or one more. -/
def layF (xs : List S27) (lo hi : ByteArray) (seq : Int) : List S27 :=
  if lo < hi then (match xs.getLast? with
    | some z => if z.f1 = lo ∧ z.f2 = seq then xs.dropLast ++ [⟨z.f0, hi, seq⟩] else xs ++ [⟨lo, hi, seq⟩]
    | none => [⟨lo, hi, seq⟩]) else xs
def LayQ (W : World) (base gb : Nat) (P : Nat → Prop) (ys : List S27) (w' : World) : Prop :=
  ∃ v', w'.heap[gb]? = some (.cells #[v'] 22 (0, 0)) ∧ Kd.R k27 27 w' base P v' ys ∧ Kept W w' (fun k => P k ∨ k = gb) ∧ Below base W w'
theorem R_slice3 {W : World} {base : Nat} {P : Nat → Prop} {v : Value} {xs : List S27} (hR : Kd.R k27 27 W base P v xs) : ∃ A m c, v = .slice A m c := by
  obtain ⟨A, c, e⟩ := Kd.R_slice hR
  exact ⟨A, _, c, e⟩
theorem ownk {W : World} {base : Nat} {P : Nat → Prop} {v : Value} {xs : List S27} (hR : Kd.R k27 27 W base P v xs) : ∀ k, v.ownBlock = some k → P k := hR.1
/-- Behind the append, out is stored back. -/
theorem lay_end {W w1 : World} {base gb : Nat} {P : Nat → Prop} {v v1 : Value} {ys : List S27} (hb : W.heap[gb]? = some (.cells #[v] 22 (0, 0))) (hbase : base ≤ gb) (hPb : ∀ k, P k → base ≤ k) (hown : ∀ k, v.ownBlock = some k → P k) (hne : some gb ≠ v.ownBlock)
    (hR : Kd.R k27 27 w1 base P v1 ys) (hB : Below base W w1) (hg : W.grownBy w1 v.ownBlock) : LayQ W base gb P ys (w1.setCell ⟨gb, 0, none⟩ v1) := by
  have hb1 : w1.heap[gb]? = some (.cells #[v] 22 (0, 0)) := (hg.block gb (blk_lt hb) hne).trans hb
  refine ⟨v1, one_setCell hb1, Kd.R_set hR hb1 (by decide) 0 v1, ?_, hB.setCell hbase v1⟩
  exact (Kept.of_grown hg (Kept.refl W _) (fun k hk => .inl (.inl (hown k hk)))).setCell (.inl (.inr rfl)) v1
/-- The last stretch goes on: a cell of the row is written. -/
theorem lay_on {W w1 : World} {base gb g : Nat} {P : Nat → Prop} {v : Value} {ys : List S27} (hb : W.heap[gb]? = some (.cells #[v] 22 (0, 0))) (hne : gb ≠ g) (hPg : P g)
    (hR : Kd.R k27 27 w1 base P v ys) (hB : Below base W w1) (hg : W.grownBy w1 (some g)) : LayQ W base gb P ys w1 :=
  ⟨v, (hg.block gb (blk_lt hb) (by simp [hne])).trans hb, hR, Kept.of_grown hg (Kept.refl W _) (fun k hk => .inl (.inl (by cases hk; exact hPg))), hB⟩
set_option maxHeartbeats 4000000 in
theorem lay37 (W : World) (base gb : Nat) (P : Nat → Prop) (v : Value) (xs : List S27) (lo hi : ByteArray) (seq : Int) (hb : W.heap[gb]? = some (.cells #[v] 22 (0, 0))) (hR : Kd.R k27 27 W base P v xs) (hbase : base ≤ gb) (hP : ∀ k, W.heap.size ≤ k → P k) (hPb : ∀ k, P k → base ≤ k)
    (hl : xs.length ≤ 1000000) :
    Calls Try.prog 37 #[.string lo, .string hi, .int .u64 seq, .pointer (some ⟨gb, 0, none⟩)] W fun e w' => e = .returned (.tuple #[]) ∧ LayQ W base gb P (layF xs lo hi seq) w' := by
  by_cases hlt : lo < hi
  · have hlt1 : Op.bytesLess lo.toList hi.toList = true := hlt
    have hcell : W.cell? ⟨gb, 0, none⟩ = some v := (blk_cell hb 0).trans rfl
    have hne : some gb ≠ v.ownBlock := Kd.R_ne hR hb (by decide)
    have HN := Aside0.mk hne
    have hbl : base ≤ W.heap.size := by have := blk_lt hb; omega
    rcases List.eq_nil_or_concat xs with rfl | ⟨ys, z, hxs⟩
    · have HF : Aside0 (layF [] lo hi seq = [] ++ [⟨lo, hi, seq⟩]) := ⟨by simp [layF, hlt]⟩
      obtain ⟨A, c, rfl⟩ := Kd.R_slice hR
      have HQ := Aside0.mk (And.intro hb (And.intro hR (And.intro hbase hP)))
      have HPb := Aside0.mk hPb
      have HBl := Aside0.mk hbl
      clear hb hR hbase hP hl hPb hlt hne hbl
      go_enter Try.func37, Try.ntmps37
      go_wp2_with ((with_reducible refine gate_builtin (b := .append) (xs := #[.tmp 41, .tmp 46]) rfl ?_); refine Kd.R_append k27 base rfl (.tmp 41) (.tmp 46) 22 27 _ 40 rfl Try.underlying22 info27 rfl (by decide) (by decide) _ [] ⟨lo, hi, seq⟩ [.string lo, .string hi, .int .u64 seq] P (fun _ => False) rfl rfl (k27_mkM _ _ _ ⟨lo, hi, seq⟩) (fun _ h => h.elim) HQ.out.2.2.2 HQ.out.2.1 (Below.refl _ _) HBl.out (by simp) ?_; intro v1 w1 hR1 hB1 hg1 hat; clear hat; obtain ⟨A1, m1, c1, e1⟩ := R_slice3 hR1; subst e1; have HE := Aside0.mk (lay_end HQ.out.1 HQ.out.2.2.1 HPb.out (ownk HQ.out.2.1) HN.out hR1 hB1 hg1); have hb1 := Aside0.mk ((hg1.block gb (blk_lt HQ.out.1) HN.out).trans HQ.out.1); have hcell1 := cell_of_one hb1.out; have hfr1 : w1.frozen? ⟨gb, 0, none⟩ = false := free_of_one hb1.out; clear hR1 hB1 hg1 hb1)
      go_end0
      exact ⟨rfl, by rw [HF.out]; exact HE.out⟩
    · rw [List.concat_eq_append] at hxs
      subst hxs
      obtain ⟨g, cap, rfl, hbg, hgl, cells, hcells⟩ := Kd.R_form hR (by simp)
      obtain ⟨n, hn⟩ : ∃ n, (ys ++ [z]).length = n := ⟨_, rfl⟩
      have hn0 : 0 < n := by rw [← hn]; simp
      have hzz : (ys ++ [z]).getD (((n : Int) - 1).toNat) z27 = z := by
        have : ((n : Int) - 1).toNat = ys.length := by rw [← hn]; simp
        rw [this]; simp
      rw [hn] at hcell hb hR hl HN hne
      have hcs := Kd.R_elem hR z27 ((n : Int) - 1) (by omega) (by omega)
      obtain ⟨c, hcl, hM, hcc, hfr⟩ := hcs
      rw [hzz] at hM
      obtain rfl := k27_openM hM
      have e1 : ((n : Int) - 1).toNat = n - 1 := by omega
      have hcc0 := hcc
      rw [e1] at hcc hfr
      have hz1 : W.cell? ⟨g, (n - 1) * 3 + 1, none⟩ = some (.string z.f1) := hcc 1 _ rfl
      have hz2 : W.cell? ⟨g, (n - 1) * 3 + 2, none⟩ = some (.int .u64 z.f2) := hcc 2 _ rfl
      have hf1 : W.frozen? ⟨g, (n - 1) * 3 + 1, none⟩ = false := hfr 1
      have hng : gb ≠ g := by intro e; subst e; exact hne (by simp [Value.ownBlock])
      have HQ := Aside0.mk (And.intro hb (And.intro hR (And.intro hbase hP)))
      have HPb := Aside0.mk hPb
      have HBl := Aside0.mk hbl
      have HC := Aside0.mk hcc0
      have HG := Aside0.mk hng
      have HNn := Aside0.mk hn
      by_cases hm1 : z.f1 = lo
      · have hm1b : (z.f1.toList == lo.toList) = true := eq_true.mpr hm1
        by_cases hm2 : z.f2 = seq
        · have hm2b : (z.f2 == seq) = true := by simpa using hm2
          have HF : Aside0 (layF (ys ++ [z]) lo hi seq = (ys ++ [z]).set ((n : Int) - 1).toNat ⟨z.f0, hi, z.f2⟩) := ⟨by
            have e2 : ((n : Int) - 1).toNat = ys.length := by rw [← hn]; simp
            rw [e2]
            simp [layF, hlt, hm1, hm2]⟩
          clear hb hR hbase hP hPb hlt hne hbl hcells hM hcc hcc0 hfr hng hzz hn hm1 hm2 hbg hgl e1
          have Hcl := Aside0.mk hcl
          clear hcl
          go_enter Try.func37, Try.ntmps37
          go_wp2
          refine bodyPost_ret (results_none rfl _ _ _) rfl ?_
          refine ⟨rfl, ?_⟩
          rw [HF.out]
          obtain ⟨hR1, hg1⟩ := Kd.R_seg (c := [.string z.f0, .string z.f1, .int .u64 z.f2]) (seg := [.string hi]) (j := 1) (x' := ⟨z.f0, hi, z.f2⟩) (okp := fun _ => False) HQ.out.2.1 ((n : Int) - 1) (by omega) (by omega) Hcl.out HC.out (by show 1 + 1 ≤ 3; omega) (k27_mkM _ _ _ ⟨z.f0, hi, z.f2⟩) (fun _ h => h.elim)
          rw [show ((n : Int) - 1).toNat * k27.sz + 1 = (n - 1) * 3 + 1 from by show ((n : Int) - 1).toNat * 3 + 1 = _; omega] at hR1 hg1
          have e3 : W.setCells g ((n - 1) * 3 + 1) [.string hi] = W.setCell ⟨g, (n - 1) * 3 + 1, none⟩ (.string hi) := rfl
          rw [e3] at hR1 hg1
          exact lay_on HQ.out.1 HG.out (ownk HQ.out.2.1 g rfl) hR1 ((Below.refl _ _).setCell (HPb.out g (ownk HQ.out.2.1 g rfl)) _) hg1
        · have hm2b : (z.f2 == seq) = false := by simpa using hm2
          have HF : Aside0 (layF (ys ++ [z]) lo hi seq = (ys ++ [z]) ++ [⟨lo, hi, seq⟩]) := ⟨by simp [layF, hlt, hm2]⟩
          clear hb hR hbase hP hPb hlt hne hbl hcells hM hcc hcc0 hfr hng hzz hn hm1 hm2 hbg hgl hcl e1
          go_enter Try.func37, Try.ntmps37
          go_wp2_with ((with_reducible refine gate_builtin (b := .append) (xs := #[.tmp 41, .tmp 46]) rfl ?_); refine Kd.R_append k27 base rfl (.tmp 41) (.tmp 46) 22 27 _ 40 rfl Try.underlying22 info27 rfl (by decide) (by decide) _ (ys ++ [z]) ⟨lo, hi, seq⟩ [.string lo, .string hi, .int .u64 seq] P (fun _ => False) rfl rfl (k27_mkM _ _ _ ⟨lo, hi, seq⟩) (fun _ h => h.elim) HQ.out.2.2.2 HQ.out.2.1 (Below.refl _ _) HBl.out (by rw [HNn.out]; omega) ?_; intro v1 w1 hR1 hB1 hg1 hat; clear hat; obtain ⟨A1, m1, c1, e1⟩ := R_slice3 hR1; subst e1; have HE := Aside0.mk (lay_end HQ.out.1 HQ.out.2.2.1 HPb.out (ownk HQ.out.2.1) HN.out hR1 hB1 hg1); have hb1 := Aside0.mk ((hg1.block gb (blk_lt HQ.out.1) HN.out).trans HQ.out.1); have hcell1 := cell_of_one hb1.out; have hfr1 : w1.frozen? ⟨gb, 0, none⟩ = false := free_of_one hb1.out; clear hR1 hB1 hg1 hb1)
          go_end0
          exact ⟨rfl, by rw [HF.out]; exact HE.out⟩
      · have hm1b : (z.f1.toList == lo.toList) = false := by rw [← Bool.not_eq_true, eq_true]; exact hm1
        have HF : Aside0 (layF (ys ++ [z]) lo hi seq = (ys ++ [z]) ++ [⟨lo, hi, seq⟩]) := ⟨by simp [layF, hlt, hm1]⟩
        clear hb hR hbase hP hPb hlt hne hbl hcells hM hcc hcc0 hfr hng hzz hn hm1 hbg hgl hcl e1
        go_enter Try.func37, Try.ntmps37
        go_wp2_with ((with_reducible refine gate_builtin (b := .append) (xs := #[.tmp 41, .tmp 46]) rfl ?_); refine Kd.R_append k27 base rfl (.tmp 41) (.tmp 46) 22 27 _ 40 rfl Try.underlying22 info27 rfl (by decide) (by decide) _ (ys ++ [z]) ⟨lo, hi, seq⟩ [.string lo, .string hi, .int .u64 seq] P (fun _ => False) rfl rfl (k27_mkM _ _ _ ⟨lo, hi, seq⟩) (fun _ h => h.elim) HQ.out.2.2.2 HQ.out.2.1 (Below.refl _ _) HBl.out (by rw [HNn.out]; omega) ?_; intro v1 w1 hR1 hB1 hg1 hat; clear hat; obtain ⟨A1, m1, c1, e1⟩ := R_slice3 hR1; subst e1; have HE := Aside0.mk (lay_end HQ.out.1 HQ.out.2.2.1 HPb.out (ownk HQ.out.2.1) HN.out hR1 hB1 hg1); have hb1 := Aside0.mk ((hg1.block gb (blk_lt HQ.out.1) HN.out).trans HQ.out.1); have hcell1 := cell_of_one hb1.out; have hfr1 : w1.frozen? ⟨gb, 0, none⟩ = false := free_of_one hb1.out; clear hR1 hB1 hg1 hb1)
        go_end0
        exact ⟨rfl, by rw [HF.out]; exact HE.out⟩
  · have hlt1 : Op.bytesLess lo.toList hi.toList = false := less_false.mpr (by grind)
    have HQ : LayQ W base gb P (layF xs lo hi seq) W := by
      rw [layF, if_neg hlt]
      exact ⟨v, hb, hR, Kept.refl _ _, Below.refl _ _⟩
    clear hb hR hbase hP hl
    have H := Aside0.mk HQ
    clear HQ hPb hlt
    go_enter Try.func37, Try.ntmps37
    go_wp2
    refine bodyPost_ret (results_none rfl _ _ _) rfl ?_
    exact ⟨rfl, H.out⟩
end Go.Proofs.Ytpfkfnphjbgohaa.El
