/-
  The law ElideFacts: its walk.
-/
import Derived.Test.YtpfkfnphjbgohaaElRFil
set_option linter.unusedVariables false
set_option linter.unusedSimpArgs false
namespace Go.Proofs.Ytpfkfnphjbgohaa.El
open Go.RowKit Go.Proofs.YtpfkfnphjbgohaaW.PrintWords Go.Proofs.YtpfkfnphjbgohaaW.PrintLast Go.Proofs.YtpfkfnphjbgohaaW.PrintMore Go.Proofs.Ytpfkfnphjbgohaa.PEa
attribute [local go_sem] binS_leq binS_gtr binS_geq max2_int min2_int max_two min_two maxS_two minS_two
theorem fewF_step (k : Nat) (l : List S46) (m n : Int) (i : Int) (h0 : 0 ≤ i) (h1 : i < (l.length : Int)) : ∃ n', flintlaw11_Few.l0 (k + 1) l m n i = flintlaw11_Few.l0 k l m n' (wrap64 (i + 1)) := by
  refine ⟨wrap64 (wrap64 (n + ((rd_T46 l i).f0.size : Int)) + ((rd_T46 l i).f2.length : Int)), ?_⟩
  simp only [flintlaw11_Few.l0]
  rw [if_pos h1, if_pos h0]
theorem fewF_end (k : Nat) (l : List S46) (m n : Int) (i : Int) (h1 : ¬ i < (l.length : Int)) : ∃ r, flintlaw11_Few.l0 (k + 1) l m n i = some r ∧ (r = true → (l.length : Int) ≤ m) := by
  simp only [flintlaw11_Few.l0]
  rw [if_neg h1]
  by_cases h : (l.length : Int) ≤ m
  · rw [if_pos h]; exact ⟨_, rfl, fun _ => h⟩
  · rw [if_neg h]; exact ⟨_, rfl, fun h => by cases h⟩
theorem fewF_l0 (l : List S46) (m : Int) (hl : l.length ≤ 1000000000) (d : Nat) : ∀ (i : Nat) (n : Int), i + d = l.length → ∃ r, flintlaw11_Few.l0 (d + 1) l m n (i : Int) = some r ∧ (r = true → (l.length : Int) ≤ m) := by
  induction d with
  | zero => intro i n hd; exact fewF_end 0 l m n i (by omega)
  | succ d ih =>
    intro i n hd
    obtain ⟨n', h⟩ := fewF_step (d + 1) l m n i (by omega) (by omega)
    have e2 : wrap64 ((i : Int) + 1) = ((i + 1 : Nat) : Int) := by unfold wrap64; omega
    rw [h, e2]
    exact ih (i + 1) n' (by omega)
theorem few15 (w : World) (A : Option Addr) (c : Nat) (l : List S46) (hC : Kd.C k46 w A l.length l) (hc : l.length ≤ c) (hl : l.length ≤ 1000000000) :
    Calls Try.prog 15 #[.slice A l.length c, .int .i64 200] w fun e w' => ∃ r : Bool, e = .returned (.bool r) ∧ (r = true → l.length ≤ 200) ∧ Drawn0 w w' := by
  obtain ⟨r, hr, h⟩ := fewF_l0 l 200 hl l.length 0 0 (by omega)
  exact (flintlaw11_Few.calls (l.length + 1) A c l 200 r w hC hc hr).mono fun e w' ⟨he, hd⟩ => ⟨r, he, fun hr => by have := h hr; omega, hd⟩
/-- The reference's set, made since w0. -/
def Er (w0 W : World) (g : Nat) (xs : List S27) : Prop :=
  ∃ v, W.heap[g]? = some (.cells #[v] 42 (0, 0)) ∧ Kd.R k27 27 W w0.heap.size (fun _ => True) v xs ∧ Below w0.heap.size w0 W ∧ w0.heap.size ≤ g
theorem Er.below {w0 W : World} {g : Nat} {xs : List S27} (h : Er w0 W g xs) : Below w0.heap.size w0 W := by
  obtain ⟨v, h1, h2, h3, h4⟩ := h
  exact h3
theorem Er.then_ {w0 W W' : World} {g : Nat} {xs : List S27} (h : Er w0 W g xs) (hb : Below W.heap.size W W') : Er w0 W' g xs := by
  obtain ⟨v, h1, h2, h3, h4⟩ := h
  exact ⟨v, blk_below h1 hb, Kd.R_below h2 hb, below_then h3 h3.size hb, h4⟩
theorem Er.open_ {w0 W : World} {g : Nat} {xs : List S27} (h : Er w0 W g xs) : ∃ A c, W.heap[g]? = some (.cells #[.slice A xs.length c] 42 (0, 0)) ∧ Kd.C k27 W A xs.length xs ∧ xs.length ≤ c := by
  obtain ⟨v, h1, h2, h3, h4⟩ := h
  obtain ⟨A, c, rfl, hc, hC⟩ := Kd.R_reads h2
  exact ⟨A, c, h1, hC, hc⟩
theorem raddE {w0 W : World} {g : Nat} {xs : List S27} {e : S27} (h : Er w0 W g xs) (hl : xs.length ≤ 1000000) (he : e.f0 < e.f1) :
    Calls Try.prog 16 #[.pointer (some ⟨g, 0, none⟩), .agg #[.string e.f0, .string e.f1, .int .u64 e.f2]] W fun r w' => r = .returned (.int .i64 0) ∧ Er w0 w' g (xs ++ [e]) := by
  obtain ⟨v, h1, h2, h3, h4⟩ := h
  obtain ⟨A, n, c, rfl⟩ := R_slice3 h2
  refine (radd16 W w0.heap.size g A n c xs e h1 h2 h4 hl he).mono ?_
  rintro r w' ⟨rfl, v', a, b, _, hB, _⟩
  exact ⟨rfl, v', a, b, h3.trans hB, h4⟩
theorem hasB_all {l : List S27} (hv : ∀ x ∈ l, x.f0 < x.f1) (k : ByteArray) (q : Int) : hasB (addAll l) k q = hasB l k q := by
  rw [Bool.eq_iff_iff, hasB_iff, hasB_iff]
  exact (all_spec hv).2.1 k q
theorem newF_all {l : List S27} (hv : ∀ x ∈ l, x.f0 < x.f1) (f : List S46) : newF (addAll l) f = newF l f := by
  unfold newF
  rw [hasB_all hv]
theorem filtF_all {l : List S27} (hv : ∀ x ∈ l, x.f0 < x.f1) (f : List S46) : ∀ k, filtF (addAll l) f k = filtF l f k
  | 0 => rfl
  | k + 1 => by
    unfold filtF
    rw [filtF_all hv f k]
    have : keepB (addAll l) f k = keepB l f k := by unfold keepB; rw [hasB_all hv]
    rw [this]
theorem take_next {l : List S27} {k : Nat} {x : S27} (hk : k < l.length) (hx : rd_T27 l k = x) : l.take (k + 1) = l.take k ++ [x] := by
  have hx2 : l[k] = x := by rw [← hx]; simp [rd_T27, hk]
  rw [List.take_succ_eq_append_getElem hk, hx2]
set_option maxHeartbeats 16000000 in
set_option maxRecDepth 100000 in
theorem facts5 (w : World) (A : Option Addr) (c : Nat) (l : List S27) (hC : Kd.C k27 w A l.length l) (hc : l.length ≤ c) (hlw : ∀ x ∈ l, (Lit.int .u64 x.f2).wf = true) (hl : l.length ≤ 1048576)
    (Af : Option Addr) (cf : Nat) (f : List S46) (hCf : Kd.C k46 w Af f.length f) (hcf : f.length ≤ cf) (hfb : ∀ x ∈ f, x.f2.length ≤ 1048576) (hf : f.length ≤ 1048576) :
    Calls Try.prog 5 #[.slice A l.length c, .slice Af f.length cf] w fun r w' => r = .returned (.bool true) ∧ Below w.heap.size w w' := by
  have HF := Aside0.mk (fun (W : World) (hb : Below w.heap.size w W) => few8 W A c l (Kd.C_below hC hb) hc (by omega))
  have HFf := Aside0.mk (fun (W : World) (hb : Below w.heap.size w W) => few15 W Af cf f (Kd.C_below hCf hb) hcf (by omega))
  have HNw := Aside0.mk (fun (W : World) (hb : Below w.heap.size w W) (h : l.length ≤ 40000) => new_ok (c := c) (Kd.C_below hC hb) h)
  have HCf := Aside0.mk (fun (W : World) (hb : Below w.heap.size w W) => Kd.C_below hCf hb)
  have HFB := Aside0.mk (And.intro hcf hfb)
  obtain ⟨rt, hr1, hr2⟩ := right_both f (by omega)
  have HR1 := Aside0.mk hr1
  have HR2 := Aside0.mk hr2
  obtain ⟨n, hn⟩ : ∃ n, l.length = n := ⟨_, rfl⟩
  obtain ⟨nf, hnf⟩ : ∃ nf, f.length = nf := ⟨_, rfl⟩
  rw [hn] at HF HNw hC hl ⊢
  rw [hnf] at HFf HCf hf ⊢
  have HN := Aside0.mk hn
  have HNf := Aside0.mk hnf
  have HC := Aside0.mk hC
  clear hC hc hn hnf hlw hCf hcf hfb hr1 hr2
  go_enter Try.func5, Try.ntmps5
  go_wp2_with (go_at_call 7; refine (known7 _).mono ?_; rintro r w1 ⟨rfl, hb⟩; have HB := Aside0.mk hb; clear hb)
  go_at_call 8
  refine (HF.out _ HB.out).mono ?_
  rintro _ w3 ⟨r, rfl, hr, hd⟩
  have Hr := Aside0.mk hr
  replace HB := Aside0.mk (below_then HB.out HB.out.size hd.below)
  clear hr hd
  cases r
  · go_wp2_with fail
    go_ret
    exact ⟨rfl, HB.out⟩
  go_wp2_with fail
  go_at_call 15
  refine (HFf.out _ HB.out).mono ?_
  rintro _ w4 ⟨r, rfl, hr2, hd⟩
  have Hr2 := Aside0.mk hr2
  replace HB := Aside0.mk (below_then HB.out HB.out.size hd.below)
  clear hr2 hd
  cases r
  · go_wp2_with fail
    go_ret
    exact ⟨rfl, HB.out⟩
  have hl2 : n ≤ 120 := Hr.out (by first | trivial | rfl)
  have hf2 : nf ≤ 200 := by have := Hr2.out (by first | trivial | rfl); omega
  clear hl hf Hr Hr2
  go_wp2_with ((with_reducible refine gate_dst (N := 27) rfl ?_); refine box_event ?hg (N := 27) ?hd (cs := #[.slice none 0 0]) (t := 42) ?hr ?_; (case hd => rfl); (case hg => rfl); (case hr => first | (go_simp; done) | (go_simp; rfl)); intro gr hgr w5 hbox hb; have HE := Aside0.mk (show Er w w5 gr (l.take 0) from ⟨_, hbox, Kd.R_nil _ _ _ _ _, below_then HB.out HB.out.size hb, by have := HB.out.size; omega⟩); clear hb hbox hgr HB)
  go_loopw [6] (fun i W => ∃ k : Nat, k ≤ n ∧ i = .int .i64 k ∧ Aside0 (∀ j : Nat, j < k → (rd_T27 l j).f0 < (rd_T27 l j).f1) ∧ Aside0 (Er w W gr (l.take k))) (fun i _ => n - (intOf i).toNat)
  case atStart => exact ⟨0, Nat.zero_le _, rfl, ⟨fun j hj => absurd hj (Nat.not_lt_zero _)⟩, HE⟩
  case round =>
    clear HE
    obtain ⟨k, hk, rfl, HA, HE⟩ := hrel
    by_cases hkn : k < n
    · clear hk
      obtain ⟨x, hx⟩ : ∃ x, rd_T27 l (k : Int) = x := ⟨_, rfl⟩
      have hC := Kd.C_below HC.out HE.out.below
      obtain ⟨ad, eA, x0, x1, x2⟩ := at_T27 hC (k : Int) (by omega) (by omega)
      subst eA
      rw [hx] at x0 x1 x2
      rw [Int.toNat_natCast] at x0 x1 x2
      have HX := Aside0.mk hx
      clear hx hC
      by_cases hv : x.f0 < x.f1
      · have HV := Aside0.mk hv
        have HT := Aside0.mk (take_next (l := l) (k := k) (by rw [HN.out]; exact hkn) HX.out)
        clear hv
        go_wp2_with (go_at_call 16; refine (raddE HE.out (by rw [List.length_take]; omega) HV.out).mono ?_; rintro r w6 ⟨rfl, hE⟩; have HE6 := Aside0.mk hE; clear hE)
        go_roundw
        case measure => simp [intOf]; omega
        case rel =>
          refine ⟨k + 1, by omega, by go_num, ⟨fun j hj => ?_⟩, ⟨by rw [HT.out]; exact HE6.out⟩⟩
          rcases Nat.lt_or_ge j k with h | h
          · exact HA.out j h
          · obtain rfl : j = k := by omega
            rw [HX.out]; exact HV.out
      · have HV := Aside0.mk hv
        clear hv
        go_wp2_with (go_at_call 16; refine (radd16n _ _ x HV.out).mono ?_; rintro r w6 ⟨rfl, hb⟩; have HE6 := Aside0.mk (HE.out.then_ hb); clear hb)
        go_ret
        exact ⟨rfl, HE6.out.below⟩
    · obtain rfl : k = n := by omega
      have hok := ok_upto HN.out HA.out
      have hv : ∀ x ∈ l, x.f0 < x.f1 := fun x hx => by simpa using List.all_eq_true.mp hok x hx
      have hE := HE.out
      rw [← HN.out, List.take_length] at hE
      have HE2 := Aside0.mk hE
      have HOK := Aside0.mk hok
      have HNF := Aside0.mk (newF_all hv f)
      have HFF := Aside0.mk (filtF_all hv f)
      have HS := Aside0.mk (And.intro (all_spec hv).1 (all_len hv))
      have hN17 : ∀ (W : World) (gs : Nat), Below w.heap.size w W → Es w W gs (addAll l) → Calls Try.prog 17 #[.pointer (some ⟨gs, 0, none⟩), .slice Af nf cf] W (NstQ W (newF l f).1 (newF l f).2) := fun W gs hb h => by
        obtain ⟨Ax, cx, hs, hCx, hcx⟩ := h.open_
        have h1 := newest17 W gs Ax cx (addAll l) hs hCx (by have := HS.out.2; rw [HN.out] at this; omega) HS.out.1.pln Af cf f (by rw [HNf.out]; exact HCf.out W hb) (by rw [HNf.out]; omega) (fun x hx => by have := HFB.out.2 x hx; omega)
        rw [HNF.out, HNf.out] at h1
        exact h1
      have hN18 : ∀ (W : World), Below w.heap.size w W → Er w W gr l → Calls Try.prog 18 #[.pointer (some ⟨gr, 0, none⟩), .slice Af nf cf] W (NstQ W (newF l f).1 (newF l f).2) := fun W hb h => by
        obtain ⟨Ax, cx, hs, hCx, hcx⟩ := h.open_
        have h1 := rnewest18 W gr Ax cx l hs hCx (by rw [HN.out]; omega) Af cf f (by rw [HNf.out]; exact HCf.out W hb) (by rw [HNf.out]; omega)
        rw [HNf.out] at h1
        exact h1
      have hN20 : ∀ (W : World) (gs : Nat), Below w.heap.size w W → Es w W gs (addAll l) → Calls Try.prog 20 #[.pointer (some ⟨gs, 0, none⟩), .slice Af nf cf] W (FilQ W (if rt = true then filtF l f nf else []) (if rt = true then 0 else 25)) := fun W gs hb h => by
        obtain ⟨Ax, cx, hs, hCx, hcx⟩ := h.open_
        have h1 := filter20 W gs Ax cx (addAll l) hs hCx (by have := HS.out.2; rw [HN.out] at this; omega) HS.out.1.pln Af cf f (by rw [HNf.out]; exact HCf.out W hb) HFB.out.1 (by rw [HNf.out]; omega) (fun x hx => by have := HFB.out.2 x hx; omega) rt HR1.out
        rw [HFF.out, HNf.out] at h1
        exact h1
      have hN21 : ∀ (W : World), Below w.heap.size w W → Er w W gr l → Calls Try.prog 21 #[.pointer (some ⟨gr, 0, none⟩), .slice Af nf cf] W (FilQ W (if rt = true then filtF l f nf else []) (if rt = true then 0 else 25)) := fun W hb h => by
        obtain ⟨Ax, cx, hs, hCx, hcx⟩ := h.open_
        have h1 := rfilter21 W gr Ax cx l hs hCx (by rw [HN.out]; omega) Af cf f (by rw [HNf.out]; exact HCf.out W hb) HFB.out.1 (by rw [HNf.out]; omega) rt HR2.out
        rw [HNf.out] at h1
        exact h1
      have hlen : (if rt = true then filtF l f nf else []).length ≤ 1000000000 := by
        have := filt_len l f nf
        split
        · omega
        · simp
      obtain ⟨y, hy⟩ : ∃ y, (newF l f).1 = y := ⟨_, rfl⟩
      obtain ⟨b, hb⟩ : ∃ b, (newF l f).2 = b := ⟨_, rfl⟩
      obtain ⟨ys, hys⟩ : ∃ ys, (if rt = true then filtF l f nf else []) = ys := ⟨_, rfl⟩
      obtain ⟨code, hcode⟩ : ∃ code : Int, (if rt = true then 0 else 25) = code := ⟨_, rfl⟩
      rw [hy, hb] at hN17 hN18
      rw [hys, hcode] at hN20 hN21
      rw [hys] at hlen
      have HN17 := Aside0.mk hN17
      have HN18 := Aside0.mk hN18
      have HN20 := Aside0.mk hN20
      have HN21 := Aside0.mk hN21
      have HYL := Aside0.mk hlen
      clear HE hE hok hv hy hb hys hcode hN17 hN18 hN20 hN21 hlen
      go_wp2_with fail
      go_at_call 9
      refine (HNw.out _ HE2.out.below (by omega)).mono ?_
      rintro r w7 ⟨hb, hr⟩
      rw [if_pos HOK.out] at hr
      obtain ⟨gs, rfl, hEs⟩ := hr
      have HEs := Aside0.mk (hEs.old HE2.out.below)
      replace HE2 := Aside0.mk (HE2.out.then_ hb)
      clear hEs hb
      go_wp2_with fail
      go_at_call 17
      refine (HN17.out _ gs HEs.out.below HEs.out).mono ?_
      rintro r w8 ⟨Aa, ca, rfl, hca, hCa, hba⟩
      have hbx := below_alloc hba (.cells #[.string y.f0, .int .u64 y.f1, .slice Aa y.f2.length ca] 46)
      replace HEs := Aside0.mk (HEs.out.then_ hbx)
      replace HE2 := Aside0.mk (HE2.out.then_ hbx)
      have HXa := Aside0.mk (show box46 (w8.alloc (.cells #[.string y.f0, .int .u64 y.f1, .slice Aa y.f2.length ca] 46)) w8.heap.size y.f0 y.f1 (.slice Aa y.f2.length ca) from blk_new w8 _)
      have HCa := Aside0.mk (And.intro hca (Kd.C_below hCa (below_alloc (Below.refl _ _) (.cells #[.string y.f0, .int .u64 y.f1, .slice Aa y.f2.length ca] 46))))
      clear hca hCa hba hbx
      go_wp2_with fail
      generalize w8.alloc (.cells #[.string y.f0, .int .u64 y.f1, .slice Aa y.f2.length ca] 46) = w9 at *
      generalize w8.heap.size = ga at *
      go_at_call 18
      refine (HN18.out _ HE2.out.below HE2.out).mono ?_
      rintro r w10 ⟨Ab, cb, rfl, hcb, hCb, hbb⟩
      have hbx := below_alloc hbb (.cells #[.string y.f0, .int .u64 y.f1, .slice Ab y.f2.length cb] 46)
      replace HEs := Aside0.mk (HEs.out.then_ hbx)
      replace HE2 := Aside0.mk (HE2.out.then_ hbx)
      replace HXa := Aside0.mk (show box46 (w10.alloc (.cells #[.string y.f0, .int .u64 y.f1, .slice Ab y.f2.length cb] 46)) ga y.f0 y.f1 (.slice Aa y.f2.length ca) from blk_below HXa.out hbx)
      replace HCa := Aside0.mk (And.intro HCa.out.1 (Kd.C_below HCa.out.2 hbx))
      have HXb := Aside0.mk (show box46 (w10.alloc (.cells #[.string y.f0, .int .u64 y.f1, .slice Ab y.f2.length cb] 46)) w10.heap.size y.f0 y.f1 (.slice Ab y.f2.length cb) from blk_new w10 _)
      have HCb := Aside0.mk (And.intro hcb (Kd.C_below hCb (below_alloc (Below.refl _ _) (.cells #[.string y.f0, .int .u64 y.f1, .slice Ab y.f2.length cb] 46))))
      have hxa := box46_cells HXa.out
      have hxb := box46_cells HXb.out
      clear hcb hCb hbb hbx
      go_wp2_with fail
      go_at_call 19
      refine (flintlaw11_Same.calls y.f0 y.f1 Aa ca y.f2 y.f0 y.f1 Ab cb y.f2 true _ HCa.out.2 HCa.out.1 HCb.out.2 HCb.out.1 (sameF y)).mono ?_
      rintro r w11 ⟨rfl, hb11⟩
      replace HEs := Aside0.mk (HEs.out.then_ hb11)
      replace HE2 := Aside0.mk (HE2.out.then_ hb11)
      clear hb11 hxa hxb HXa HXb HCa HCb
      go_wp2_with fail
      go_at_call 20
      refine (HN20.out _ gs HEs.out.below HEs.out).mono ?_
      rintro r w12 ⟨Ap, cp, rfl, hcp, hCp, hb12⟩
      replace HE2 := Aside0.mk (HE2.out.then_ hb12)
      have HCp := Aside0.mk (And.intro hcp hCp)
      clear hcp hCp hb12
      go_wp2_with fail
      go_at_call 21
      refine (HN21.out _ HE2.out.below HE2.out).mono ?_
      rintro r w13 ⟨Aq, cq, rfl, hcq, hCq, hb13⟩
      have HSm := Aside0.mk (same22 (Kd.C_below HCp.out.2 hb13) HCp.out.1 hCq hcq HYL.out)
      replace HE2 := Aside0.mk (HE2.out.then_ hb13)
      clear hcq hCq hb13 HCp
      go_wp2_with fail
      go_at_call 22
      refine HSm.out.mono ?_
      rintro r w14 ⟨rfl, hb14⟩
      replace HE2 := Aside0.mk (HE2.out.then_ hb14)
      clear hb14 HSm
      go_wp2_with fail
      go_ret
      exact ⟨rfl, HE2.out.below⟩
end Go.Proofs.Ytpfkfnphjbgohaa.El
