/-
  The law ElideAdds: its walk.
-/
import Derived.Test.YtpfkfnphjbgohaaElKn
set_option linter.unusedVariables false
set_option linter.unusedSimpArgs false
namespace Go.Proofs.Ytpfkfnphjbgohaa.El
open Go.RowKit Go.Proofs.YtpfkfnphjbgohaaW.PrintWords Go.Proofs.YtpfkfnphjbgohaaW.PrintLast Go.Proofs.YtpfkfnphjbgohaaW.PrintMore Go.Proofs.Ytpfkfnphjbgohaa.PEa
attribute [local go_sem] binS_leq binS_gtr binS_geq max2_int min2_int max_two min_two maxS_two minS_two
theorem few_l0 (l : List S27) : ∀ (d k i : Nat) (n : Int), i + d = l.length → d < k → l.length ≤ 1000000000 → ∃ r, flintlaw12_few.l0 k l n i = some r ∧ (r = true → l.length ≤ 120)
  | 0, k, i, n, hd, hk, hl => by
    obtain ⟨k, rfl⟩ : ∃ m, k = m + 1 := ⟨k - 1, by omega⟩
    simp only [flintlaw12_few.l0]
    rw [if_neg (by omega)]
    by_cases h : (l.length : Int) ≤ 120
    · rw [if_pos h]; exact ⟨_, rfl, fun _ => by omega⟩
    · rw [if_neg h]; exact ⟨_, rfl, fun h => by cases h⟩
  | d + 1, k, i, n, hd, hk, hl => by
    obtain ⟨k, rfl⟩ : ∃ m, k = m + 1 := ⟨k - 1, by omega⟩
    simp only [flintlaw12_few.l0]
    rw [if_pos (by omega), if_pos (by omega)]
    have e : wrap64 ((i : Int) + 1) = ((i + 1 : Nat) : Int) := by unfold wrap64; omega
    rw [e]
    exact few_l0 l d k (i + 1) _ (by omega) (by omega) hl
theorem few8 (w : World) (A : Option Addr) (c : Nat) (l : List S27) (hC : Kd.C k27 w A l.length l) (hc : l.length ≤ c) (hl : l.length ≤ 1000000000) :
    Calls Try.prog 8 #[.slice A l.length c] w fun e w' => ∃ r : Bool, e = .returned (.bool r) ∧ (r = true → l.length ≤ 120) ∧ Drawn0 w w' := by
  obtain ⟨r, hr, h⟩ := few_l0 l l.length (l.length + 1) 0 0 (by omega) (by omega) hl
  exact (flintlaw12_few.calls (l.length + 1) A c l r w hC hc hr).mono fun e w' ⟨he, hd⟩ => ⟨r, he, h, hd⟩
theorem one27 (w : World) (base : Nat) (x : S27) : Reps (k27.M w base fun _ => True) 3 [x] [.string x.f0, .string x.f1, .int .u64 x.f2] :=
  (Reps.none (k27.M w base fun _ => True) 3).snoc (p := x) (c := [.string x.f0, .string x.f1, .int .u64 x.f2]) (k27_mkM _ _ _ x) rfl
theorem lit27 (W : World) (x : S27) : Kd.R k27 27 (W.alloc (.cells #[.string x.f0, .string x.f1, .int .u64 x.f2] 27)) W.heap.size (fun _ => True) (.slice (some ⟨W.heap.size, 0, none⟩) 1 1) [x] :=
  ⟨fun _ _ => trivial, OwnRow.lit W W.heap.size (inner := [.string x.f0, .string x.f1, .int .u64 x.f2]) ((Reps.none _ 3).snoc (p := x) (c := [.string x.f0, .string x.f1, .int .u64 x.f2]) (k27_mkM _ _ _ x) rfl) (Nat.le_refl _) (by simp)⟩
theorem fewOne (W : World) (x : S27) : Calls Try.prog 8 #[.slice (some ⟨W.heap.size, 0, none⟩) 1 1] (W.alloc (.cells #[.string x.f0, .string x.f1, .int .u64 x.f2] 27)) fun e w' => ∃ r : Bool, e = .returned (.bool r) ∧ Below W.heap.size W w' := by
  obtain ⟨A, c, he, hc, hC⟩ := Kd.R_reads (lit27 W x)
  injection he with e1 e2 e3
  subst e1 e3
  exact (few8 _ _ 1 [x] hC hc (by simp)).mono fun e w' ⟨r, h1, _, h2⟩ => ⟨r, h1, below_then (below_alloc (Below.refl _ _) _) (by simp) h2.below⟩
theorem new_ok {w : World} {A : Option Addr} {c : Nat} {l : List S27} (hC : Kd.C k27 w A l.length l) (hl : l.length ≤ 40000) : Calls Try.prog 9 #[.slice A l.length c] w (NewQ w l) :=
  new9 w A c l hC (by omega) fun hok k hk => by
    have h := all_len (l := l.take k) fun x hx => by simpa using List.all_eq_true.mp hok x (List.mem_of_mem_take hx)
    rw [List.length_take] at h
    omega
set_option maxHeartbeats 8000000 in
set_option maxRecDepth 100000 in
theorem adds4 (w : World) (A : Option Addr) (c : Nat) (l : List S27) (hC : Kd.C k27 w A l.length l) (hc : l.length ≤ c) (hlw : ∀ x ∈ l, (Lit.int .u64 x.f2).wf = true) (hl : l.length ≤ 1048576) (e : S27) (hew : (Lit.int .u64 e.f2).wf = true) (key : ByteArray) (hkb : key.size ≤ 1048576) (seq : Int) (hsw : (Lit.int .u64 seq).wf = true) :
    Calls Try.prog 4 #[.slice A l.length c, .agg #[.string e.f0, .string e.f1, .int .u64 e.f2], .string key, .int .u64 seq] w fun r w' => r = .returned (.bool true) ∧ Below w.heap.size w w' := by
  clear hlw hew hkb hsw
  obtain ⟨n, hn⟩ : ∃ n, l.length = n := ⟨_, rfl⟩
  have HF := Aside0.mk (fun (W : World) (hb : Below w.heap.size w W) => few8 W A c l (Kd.C_below hC hb) hc (by omega))
  have HNw := Aside0.mk (fun (W : World) (hb : Below w.heap.size w W) (h : l.length ≤ 40000) => new_ok (c := c) (Kd.C_below hC hb) h)
  rw [hn] at HF HNw ⊢
  have HN := Aside0.mk hn
  have hchk := Aside0.mk check12
  clear hC hc hn
  go_enter Try.func4, Try.ntmps4
  go_wp2_with (first
    | ((with_reducible refine gate_dst (N := 5) rfl ?_); refine box_event ?hg (N := 5) ?hd (cs := #[.string e.f0, .string e.f1, .int .u64 e.f2]) (t := 27) ?hr ?_; (case hd => rfl); (case hg => rfl); (case hr => first | (go_simp; done) | (go_simp; rfl)); intro ge hge w1 hbox hb; have HB := Aside0.mk hb; have HX := Aside0.mk (show box27 w1 ge e from hbox); clear hb hbox hge)
    | (go_at_call 7; refine (known7 _).mono ?_; rintro r w2 ⟨rfl, hb⟩; replace HX := Aside0.mk (show box27 w2 ge e from blk_below HX.out hb); replace HB := Aside0.mk (below_then HB.out HB.out.size hb); have hce := box_cells HX.out; clear hb))
  go_at_call 8
  refine (HF.out _ HB.out).mono ?_
  rintro _ w3 ⟨r, rfl, hr, hd⟩
  have Hr := Aside0.mk hr
  replace HX := Aside0.mk (show box27 w3 ge e from blk_below HX.out hd.below)
  replace HB := Aside0.mk (below_then HB.out HB.out.size hd.below)
  clear hr hd hce
  cases r
  · go_wp2_with fail
    go_ret
    exact ⟨rfl, HB.out⟩
  have HL := Aside0.mk (show l.length ≤ 40000 by have := Hr.out rfl; rw [HN.out]; omega)
  have hce := box_cells HX.out
  go_wp2_with fail
  go_at_call 8
  refine (fewOne w3 e).mono ?_
  rintro _ w4 ⟨r, rfl, hb⟩
  replace HX := Aside0.mk (show box27 w4 ge e from blk_below HX.out hb)
  replace HB := Aside0.mk (below_then HB.out HB.out.size hb)
  clear hb hce
  cases r
  · go_wp2_with fail
    go_ret
    exact ⟨rfl, HB.out⟩
  by_cases hk : (key.size : Int) > 1000
  · go_wp2_with fail
    go_ret
    exact ⟨rfl, HB.out⟩
  go_wp2_with fail
  go_at_call 9
  refine (HNw.out _ HB.out (by rw [← HN.out]; exact HL.out)).mono ?_
  rintro r w5 ⟨hb, hr⟩
  replace HX := Aside0.mk (show box27 w5 ge e from blk_below HX.out hb)
  have HB5 := Aside0.mk (below_then HB.out HB.out.size hb)
  clear hb
  by_cases hok : allOk l = true
  rotate_left
  · rw [if_neg hok] at hr
    subst hr
    go_wp2_with fail
    go_ret
    exact ⟨rfl, HB5.out⟩
  rw [if_pos hok] at hr
  obtain ⟨g, rfl, hE⟩ := hr
  have HE := Aside0.mk (hE.old HB.out)
  have HOK := Aside0.mk hok
  clear hE hok
  have hce := box_cells HX.out
  by_cases he : e.f0 < e.f1
  rotate_left
  · have HV := Aside0.mk he
    clear he
    go_wp2_with (go_at_call 12; refine (hchk.out _ e).mono ?_; rintro r w6 ⟨rfl, hb⟩; rw [if_neg HV.out]; replace HB5 := Aside0.mk (below_then HB5.out HB5.out.size hb); clear hb)
    go_ret
    exact ⟨rfl, HB5.out⟩
  have HV := Aside0.mk he
  clear he
  go_wp2_with (first
    | (go_at_call 12; refine (hchk.out _ e).mono ?_; rintro r w6 ⟨rfl, hb⟩; rw [if_pos HV.out]; replace HE := Aside0.mk (HE.out.then_ hb); replace HX := Aside0.mk (show box27 w6 ge e from blk_below HX.out hb); clear hce; have hce := box_cells HX.out; clear hb))
  have hv : ∀ x ∈ l, x.f0 < x.f1 := fun x hx => by simpa using List.all_eq_true.mp HOK.out x hx
  have HA := Aside0.mk (all_spec hv)
  have HAl := Aside0.mk (show (addAll l).length ≤ 100000 by have := all_len hv; have := HL.out; omega)
  have HAd := Aside0.mk (addF_spec (B := e.f0 :: e.f1 :: ends l) (e := e) HA.out.1 HV.out (HA.out.2.2.mono (fun x hx => by simp [hx])) (by simp) (by simp))
  have HAn := Aside0.mk (show (addF (addAll l) e).length ≤ 1000000 by have h := cano_len HAd.out.1 HAd.out.2.2; simp only [List.length_cons, ends_length] at h; have := HL.out; omega)
  clear hv
  have HT := Aside0.mk (show hasB (addF (addAll l) e) key seq = (hasB (addAll l) key seq || inB key seq e) by
    rw [Bool.eq_iff_iff, Bool.or_eq_true, hasB_iff, hasB_iff, HAd.out.2.1]
    simp [inB])
  go_at_call 13
  refine (hasE HE.out (Nat.le_trans HAl.out (by omega)) HA.out.1.pln).mono ?_
  rintro r w7 ⟨rfl, hE, hb⟩
  replace HE := Aside0.mk hE
  replace HX := Aside0.mk (show box27 w7 ge e from blk_below HX.out hb)
  clear hE hb hce
  have hce := box_cells HX.out
  obtain ⟨V0, hV0⟩ : ∃ V, hasB (addAll l) key seq = V := ⟨_, rfl⟩
  obtain ⟨V1, hV1⟩ : ∃ V, hasB (addF (addAll l) e) key seq = V := ⟨_, rfl⟩
  rw [hV0] at HT ⊢
  rw [hV1] at HT
  have HV1 := Aside0.mk hV1
  clear hV0 hV1
  go_wp2_with fail
  go_at_call 14
  refine (addE HE.out HAl.out HV.out).mono ?_
  rintro r w8 ⟨rfl, hE, hg⟩
  have HX8 := Aside0.mk (show box27 w8 ge e from (hg.block ge (blk_lt HX.out) (by have := HE.out.ne_box HX.out (by decide); simp [this])).trans HX.out)
  have HE8 := Aside0.mk hE
  clear hE hg hce
  have hce := box_cells HX8.out
  have hcase : (e.f0 ≤ key ∧ key < e.f1 ∧ seq ≤ e.f2) ∨ (e.f0 ≤ key ∧ key < e.f1 ∧ ¬ seq ≤ e.f2) ∨ (e.f0 ≤ key ∧ e.f1 ≤ key) ∨ key < e.f0 := by grind
  rcases hcase with ⟨a, b, d⟩ | ⟨a, b, d⟩ | ⟨a, b⟩ | a
  · have a1 : Op.bytesLess key.toList e.f0.toList = false := less_false.mpr a
    have b1 : Op.bytesLess key.toList e.f1.toList = true := less_true.mpr b
    have HI := Aside0.mk (show inB key seq e = true from decide_eq_true ⟨a, b, d⟩)
    have d1 : decide (seq ≤ e.f2) = true := decide_eq_true d
    clear a b
    rw [HI.out] at HT
    cases V0 <;> (simp only [Bool.or_true, Bool.or_false, Bool.true_or, Bool.false_or] at HT; have HT2 := Aside0.mk (HV1.out.trans HT.out); clear HT)
    all_goals
      go_wp2_with (go_at_call 13; refine (hasE HE8.out HAn.out HAd.out.1.pln).mono ?_; rintro r w9 ⟨rfl, hE, hb⟩; rw [HT2.out]; have HE9 := Aside0.mk hE; clear hE hb)
      go_ret
      exact ⟨rfl, HE9.out.below⟩
  · have a1 : Op.bytesLess key.toList e.f0.toList = false := less_false.mpr a
    have b1 : Op.bytesLess key.toList e.f1.toList = true := less_true.mpr b
    have HI := Aside0.mk (show inB key seq e = false from decide_eq_false (fun h => d h.2.2))
    have d1 : decide (seq ≤ e.f2) = false := decide_eq_false d
    clear a b
    rw [HI.out] at HT
    cases V0 <;> (simp only [Bool.or_true, Bool.or_false, Bool.true_or, Bool.false_or] at HT; have HT2 := Aside0.mk (HV1.out.trans HT.out); clear HT)
    all_goals
      go_wp2_with (go_at_call 13; refine (hasE HE8.out HAn.out HAd.out.1.pln).mono ?_; rintro r w9 ⟨rfl, hE, hb⟩; rw [HT2.out]; have HE9 := Aside0.mk hE; clear hE hb)
      go_ret
      exact ⟨rfl, HE9.out.below⟩
  · have a1 : Op.bytesLess key.toList e.f0.toList = false := less_false.mpr a
    have b1 : Op.bytesLess key.toList e.f1.toList = false := less_false.mpr b
    have HI := Aside0.mk (show inB key seq e = false from decide_eq_false (fun h => by grind))
    clear a b
    rw [HI.out] at HT
    cases V0 <;> (simp only [Bool.or_true, Bool.or_false, Bool.true_or, Bool.false_or] at HT; have HT2 := Aside0.mk (HV1.out.trans HT.out); clear HT)
    all_goals
      go_wp2_with (go_at_call 13; refine (hasE HE8.out HAn.out HAd.out.1.pln).mono ?_; rintro r w9 ⟨rfl, hE, hb⟩; rw [HT2.out]; have HE9 := Aside0.mk hE; clear hE hb)
      go_ret
      exact ⟨rfl, HE9.out.below⟩
  · have a1 : Op.bytesLess key.toList e.f0.toList = true := less_true.mpr a
    have HI := Aside0.mk (show inB key seq e = false from decide_eq_false (fun h => by grind))
    clear a
    rw [HI.out] at HT
    cases V0 <;> (simp only [Bool.or_true, Bool.or_false, Bool.true_or, Bool.false_or] at HT; have HT2 := Aside0.mk (HV1.out.trans HT.out); clear HT)
    all_goals
      go_wp2_with (go_at_call 13; refine (hasE HE8.out HAn.out HAd.out.1.pln).mono ?_; rintro r w9 ⟨rfl, hE, hb⟩; rw [HT2.out]; have HE9 := Aside0.mk hE; clear hE hb)
      go_ret
      exact ⟨rfl, HE9.out.below⟩
end Go.Proofs.Ytpfkfnphjbgohaa.El
