/-
  The law ElideOrders: its walk.
-/
import Derived.Test.YtpfkfnphjbgohaaElAds
import Derived.Deep.QuietTactic
import Derived.BigQuiet
set_option linter.unusedVariables false
set_option linter.unusedSimpArgs false
namespace Go.Proofs.Ytpfkfnphjbgohaa.El
open Go.RowKit Go.Proofs.YtpfkfnphjbgohaaW.PrintWords Go.Proofs.YtpfkfnphjbgohaaW.PrintLast Go.Proofs.YtpfkfnphjbgohaaW.PrintMore Go.Proofs.Ytpfkfnphjbgohaa.PEa
attribute [local go_sem] binS_leq binS_gtr binS_geq max2_int min2_int max_two min_two maxS_two minS_two
theorem same_l0 (l : List S27) (hl : l.length ≤ 1000000000) : ∀ (d k i : Nat), i + d = l.length → d < k → flintlaw12_same.l0 k l l i = some true
  | 0, k, i, hd, hk => by
    obtain ⟨k, rfl⟩ : ∃ m, k = m + 1 := ⟨k - 1, by omega⟩
    simp only [flintlaw12_same.l0]
    rw [if_neg (by omega)]
  | d + 1, k, i, hd, hk => by
    obtain ⟨k, rfl⟩ : ∃ m, k = m + 1 := ⟨k - 1, by omega⟩
    simp only [flintlaw12_same.l0]
    rw [if_pos (by omega), if_pos (by omega), if_pos (by omega), if_neg (by simp)]
    have e : wrap64 ((i : Int) + 1) = ((i + 1 : Nat) : Int) := by unfold wrap64; omega
    rw [e]
    exact same_l0 l hl d k (i + 1) (by omega) (by omega)
theorem same11 {w : World} {A B : Option Addr} {c d : Nat} {l : List S27} (hA : Kd.C k27 w A l.length l) (hc : l.length ≤ c) (hB : Kd.C k27 w B l.length l) (hd : l.length ≤ d) (hl : l.length ≤ 1000000000) :
    Calls Try.prog 11 #[.slice A l.length c, .slice B l.length d] w fun e w' => e = .returned (.bool true) ∧ Drawn0 w w' := by
  refine flintlaw12_same.calls (l.length + 1) A c l B d l true w hA hc hB hd ?_
  rw [flintlaw12_same.f, if_pos rfl]
  exact same_l0 l hl l.length (l.length + 1) 0 (by omega) (by omega)
/-- The row turned. -/
def turned (l : List S27) (T k : Nat) : List S27 := (List.range k).map (fun i => rd_T27 l (((i + T) % l.length : Nat) : Int))
theorem turned_next (l : List S27) (T k : Nat) : turned l T (k + 1) = turned l T k ++ [rd_T27 l (((k + T) % l.length : Nat) : Int)] := by
  simp [turned, List.range_succ]
theorem turned_length (l : List S27) (T k : Nat) : (turned l T k).length = k := by simp [turned]
theorem turned_mem {l : List S27} {T : Nat} (hT : T < l.length) (x : S27) : x ∈ turned l T l.length ↔ x ∈ l := by
  simp only [turned, List.mem_map, List.mem_range]
  constructor
  · rintro ⟨i, hi, rfl⟩
    exact rd_mem (Nat.mod_lt _ (by omega))
  · intro hx
    obtain ⟨i, hi, rfl⟩ := mem_rd hx
    by_cases h : T ≤ i
    · exact ⟨i - T, by omega, by rw [show i - T + T = i by omega, Nat.mod_eq_of_lt hi]⟩
    · exact ⟨i + l.length - T, by omega, by rw [show i + l.length - T + T = i + l.length by omega, Nat.add_mod_right, Nat.mod_eq_of_lt hi]⟩
theorem turned_ok {l : List S27} {T : Nat} (hT : T < l.length) : allOk (turned l T l.length) = allOk l := by
  rw [Bool.eq_iff_iff, allOk, allOk, List.all_eq_true, List.all_eq_true]
  exact ⟨fun h x hx => h x ((turned_mem hT x).mpr hx), fun h x hx => h x ((turned_mem hT x).mp hx)⟩
theorem turned_all {l : List S27} {T : Nat} (hT : T < l.length) (hv : ∀ x ∈ l, x.f0 < x.f1) : addAll (turned l T l.length) = addAll l := by
  obtain ⟨a, b, _⟩ := all_spec hv
  obtain ⟨a', b', _⟩ := all_spec (l := turned l T l.length) (fun x hx => hv x ((turned_mem hT x).mp hx))
  refine cano_eq a' a (fun k q => ?_)
  rw [b, b']
  exact ⟨fun ⟨x, hx, h⟩ => ⟨x, (turned_mem hT x).mp hx, h⟩, fun ⟨x, hx, h⟩ => ⟨x, (turned_mem hT x).mpr hx, h⟩⟩
theorem again_all {l : List S27} (hC : Cano l) : addAll l = l := by
  obtain ⟨a, b, _⟩ := all_spec hC.full
  exact cano_eq a hC b
theorem cano_ok {l : List S27} (hC : Cano l) : allOk l = true := by
  rw [allOk, List.all_eq_true]
  intro x hx
  simpa using hC.full x hx
theorem listX {w0 W : World} {g : Nat} {xs : List S27} (h : Es w0 W g xs) (hl : xs.length ≤ 1000000) :
    Calls Try.prog 10 #[.pointer (some ⟨g, 0, none⟩)] W fun r w' => ∃ A c, r = .returned (.slice A xs.length c) ∧ xs.length ≤ c ∧ Kd.C k27 w' A xs.length xs ∧ Below W.heap.size W w' := by
  refine (listE h hl).mono ?_
  rintro r w' ⟨v, rfl, hR, hb⟩
  obtain ⟨A, c, rfl, hc, hC⟩ := Kd.R_reads hR
  exact ⟨A, c, rfl, hc, hC, hb⟩
set_option maxHeartbeats 16000000 in
set_option maxRecDepth 100000 in
theorem orders3 (w : World) (A : Option Addr) (c : Nat) (l : List S27) (hC : Kd.C k27 w A l.length l) (hc : l.length ≤ c) (hlw : ∀ x ∈ l, (Lit.int .u64 x.f2).wf = true) (hl : l.length ≤ 1048576) (turn : Int) (htw : (Lit.int .i64 turn).wf = true) :
    Calls Try.prog 3 #[.slice A l.length c, .int .i64 turn] w fun r w' => r = .returned (.bool true) ∧ Below w.heap.size w w' := by
  obtain ⟨n, hn⟩ : ∃ n, l.length = n := ⟨_, rfl⟩
  have HF := Aside0.mk (fun (W : World) (hb : Below w.heap.size w W) => few8 W A c l (Kd.C_below hC hb) hc (by omega))
  have HNw := Aside0.mk (fun (W : World) (hb : Below w.heap.size w W) (h : l.length ≤ 40000) => new_ok (c := c) (Kd.C_below hC hb) h)
  rw [hn] at HF HNw hC hl ⊢
  have HN := Aside0.mk hn
  have HC := Aside0.mk hC
  clear hC hc hn hlw htw
  go_enter Try.func3, Try.ntmps3
  go_wp2_with (go_at_call 7; refine (known7 _).mono ?_; rintro r w1 ⟨rfl, hb⟩; have HB := Aside0.mk hb; clear hb)
  go_at_call 8
  refine (HF.out _ HB.out).mono ?_
  rintro _ w3 ⟨r, rfl, hr, hd⟩
  have Hr := Aside0.mk hr
  replace HB := Aside0.mk (below_then HB.out HB.out.size hd.below)
  clear hr hd
  cases r
  · go_wp2_with fail
    go_ret
    exact ⟨rfl, HB.out⟩
  rcases Nat.eq_zero_or_pos n with h0 | h0
  · subst h0
    go_wp2_with fail
    go_ret
    exact ⟨rfl, HB.out⟩
  have hl2 : n ≤ 120 := Hr.out rfl
  clear hl Hr
  obtain ⟨R, hR⟩ : ∃ R, turn.tmod (n : Int) = R := ⟨_, rfl⟩
  have hR1 : -(n : Int) < R ∧ R < n := by
    rw [← hR]
    have h1 := Int.tmod_lt_of_pos turn (show (0 : Int) < n by omega)
    have h2 := Int.lt_tmod_of_pos turn (show (0 : Int) < n by omega)
    omega
  have hnz : ((n : Int) == 0) = false := by simp; omega
  obtain ⟨T, hT, hTn⟩ : ∃ T : Nat, (if R < 0 then R + n else R) = T ∧ T < n := ⟨(if R < 0 then R + n else R).toNat, by split <;> omega, by split <;> omega⟩
  by_cases hneg : R < 0
  · rw [if_pos hneg] at hT
    go_wp2_with fail
    go_loopw [5, 6] (fun v i W => ∃ k : Nat, k ≤ n ∧ i = .int .i64 k ∧ Aside0 (Kd.R k27 27 W w.heap.size (fun _ => True) v (turned l T k)) ∧ Aside0 (Below w.heap.size w W)) (fun _ i _ => n - (intOf i).toNat)
    case atStart => exact ⟨0, Nat.zero_le _, rfl, ⟨Kd.R_nil _ _ _ _ _⟩, HB⟩
    case round =>
      clear HB
      obtain ⟨k, hk, rfl, HO, HB⟩ := hrel
      by_cases hkn : k < n
      · obtain ⟨x, hx⟩ : ∃ x, rd_T27 l (((k + T) % n : Nat) : Int) = x := ⟨_, rfl⟩
        have hC := Kd.C_below HC.out HB.out
        have hmod := Nat.mod_lt (k + T) h0
        have hm0 := Int.emod_nonneg ((k : Int) + T) (show (n : Int) ≠ 0 by omega)
        have hm1 := Int.emod_lt_of_pos ((k : Int) + T) (show (0 : Int) < n by omega)
        obtain ⟨ad, eA, x0, x1, x2⟩ := at_T27 hC (((k + T) % n : Nat) : Int) (by omega) (by omega)
        subst eA
        rw [hx] at x0 x1 x2
        rw [Int.toNat_natCast] at x0 x1 x2
        have HX := Aside0.mk (show turned l T (k + 1) = turned l T k ++ [x] from by rw [turned_next, HN.out, hx])
        clear hx hC
        go_wp2_with ((with_reducible refine gate_builtin (b := .append) (xs := #[.tmp 41, .tmp 51]) rfl ?_); refine Kd.R_append k27 w.heap.size rfl (.tmp 41) (.tmp 51) 22 27 _ 40 rfl Try.underlying22 info27 rfl (by decide) (by decide) _ (turned l T k) x [.string x.f0, .string x.f1, .int .u64 x.f2] (fun _ => True) (fun _ => False) rfl rfl (k27_mkM _ _ _ x) (fun _ h => h.elim) (fun _ _ => trivial) HO.out HB.out HB.out.size (by rw [turned_length]; omega) ?_; intro v1 w1 hR1 hB1 hg1 hat; clear hat hg1; replace HB := Aside0.mk hB1; have HO1 := Aside0.mk hR1; clear hR1 hB1)
        go_roundw
        case measure => simp [intOf]; omega
        case rel => exact ⟨k + 1, by omega, by go_num, ⟨by rw [HX.out]; exact HO1.out⟩, HB⟩
      · obtain rfl : k = n := by omega
        obtain ⟨A1, c1, e1, hc1, hC1⟩ := Kd.R_reads HO.out
        rw [turned_length] at e1 hc1 hC1
        subst e1
        have HM := Aside0.mk (fun (W : World) (hb : Below wr.heap.size wr W) => new_ok (w := W) (A := A1) (c := c1) (l := turned l T k) (by rw [turned_length]; exact Kd.C_below hC1 hb) (by rw [turned_length]; omega))
        rw [turned_length] at HM
        have hl4 : l.length ≤ 40000 := by rw [HN.out]; omega
        have hl3 := Aside0.mk hl4
        have hTl : T < l.length := by rw [HN.out]; exact hTn
        have hokm := turned_ok hTl
        have hallm := fun hv => turned_all (l := l) hTl hv
        rw [HN.out] at hokm hallm
        have HOK := Aside0.mk hokm
        have HALL := Aside0.mk hallm
        clear hc1 hC1 hTl hokm hallm hl4 HO
        go_wp2_with fail
        go_at_call 9
        refine (HNw.out _ HB.out (by omega)).mono ?_
        rintro r w5 ⟨hb5, hr⟩
        have HB5 := Aside0.mk (below_then HB.out HB.out.size hb5)
        have Hb5 := Aside0.mk hb5
        clear hb5
        by_cases hok : allOk l = true
        rotate_left
        · rw [if_neg hok] at hr
          subst hr
          have HNO := Aside0.mk hok
          clear hok
          go_wp2_with fail
          go_at_call 9
          refine (HM.out _ Hb5.out).mono ?_
          rintro r w6 ⟨hb6, hr⟩
          rw [HOK.out, if_neg HNO.out] at hr
          subst hr
          have HB6 := Aside0.mk (below_then HB5.out HB5.out.size hb6)
          clear hb6
          go_wp2_with fail
          go_ret
          exact ⟨rfl, HB6.out⟩
        rw [if_pos hok] at hr
        obtain ⟨ga, rfl, hEa⟩ := hr
        have hv : ∀ x ∈ l, x.f0 < x.f1 := fun x hx => by simpa using List.all_eq_true.mp hok x hx
        have HS := Aside0.mk (all_spec hv).1
        have hSl : (addAll l).length ≤ 30000 := by have := all_len hv; rw [HN.out] at this; omega
        have hsm := HALL.out hv
        have HYES := Aside0.mk hok
        have hEa2 := hEa.old HB.out
        generalize addAll l = S at HS hSl hsm hEa2
        have HEa := Aside0.mk hEa2
        have HSM := Aside0.mk hsm
        clear hEa hEa2 hv hsm hok HALL
        go_wp2_with fail
        go_at_call 9
        refine (HM.out _ Hb5.out).mono ?_
        rintro r w6 ⟨hb6, hr⟩
        rw [HOK.out, if_pos HYES.out, HSM.out] at hr
        obtain ⟨gb, rfl, hEb⟩ := hr
        have HEb := Aside0.mk (hEb.old HB5.out)
        replace HEa := Aside0.mk (HEa.out.then_ hb6)
        clear hEb hb6 HOK HYES HSM HM HNw HF
        obtain ⟨m, hm⟩ : ∃ m, S.length = m := ⟨_, rfl⟩
        rw [hm] at hSl
        have HSl := Aside0.mk (show S.length ≤ 1000000 by rw [hm]; omega)
        have Hm := Aside0.mk hm
        clear hm
        have hlx := Aside0.mk (fun {W : World} {g : Nat} (h : Es w W g S) => listX h HSl.out)
        rw [Hm.out] at hlx
        go_wp2_with fail
        go_at_call 10
        refine (hlx.out HEa.out).mono ?_
        rintro _ w7 ⟨A2, c2, rfl, hc2, hC2, hb7⟩
        replace HEa := Aside0.mk (HEa.out.then_ hb7)
        replace HEb := Aside0.mk (HEb.out.then_ hb7)
        have HNc := Aside0.mk (new_ok (w := w7) (A := A2) (c := c2) (l := S) (by rw [Hm.out]; exact hC2) (by rw [Hm.out]; omega))
        rw [Hm.out] at HNc
        clear hc2 hC2 hb7
        go_wp2_with fail
        go_at_call 9
        refine HNc.out.mono ?_
        rintro r w8 ⟨hb8, hr⟩
        rw [if_pos (cano_ok HS.out), again_all HS.out] at hr
        obtain ⟨gc, rfl, hEc⟩ := hr
        have HEc := Aside0.mk (hEc.old HEa.out.below)
        replace HEa := Aside0.mk (HEa.out.then_ hb8)
        replace HEb := Aside0.mk (HEb.out.then_ hb8)
        clear hEc hb8 HNc
        go_wp2_with fail
        go_at_call 10
        refine (hlx.out HEa.out).mono ?_
        rintro _ w9 ⟨A9, c9, rfl, hc9, hC9, hb9⟩
        replace HEa := Aside0.mk (HEa.out.then_ hb9)
        replace HEb := Aside0.mk (HEb.out.then_ hb9)
        replace HEc := Aside0.mk (HEc.out.then_ hb9)
        go_wp2_with fail
        go_at_call 10
        refine (hlx.out HEb.out).mono ?_
        rintro _ w10 ⟨A10, c10, rfl, hc10, hC10, hb10⟩
        replace HEa := Aside0.mk (HEa.out.then_ hb10)
        replace HEb := Aside0.mk (HEb.out.then_ hb10)
        replace HEc := Aside0.mk (HEc.out.then_ hb10)
        have HSa := Aside0.mk (same11 (w := w10) (A := A9) (B := A10) (c := c9) (d := c10) (l := S) (by rw [Hm.out]; exact Kd.C_below hC9 hb10) (by rw [Hm.out]; exact hc9) (by rw [Hm.out]; exact hC10) (by rw [Hm.out]; exact hc10) (Nat.le_trans HSl.out (by omega)))
        rw [Hm.out] at HSa
        clear hc9 hC9 hb9 hc10 hC10 hb10
        go_wp2_with fail
        go_at_call 11
        refine HSa.out.mono ?_
        rintro _ w11 ⟨rfl, hd11⟩
        replace HEa := Aside0.mk (HEa.out.then_ hd11.below)
        replace HEb := Aside0.mk (HEb.out.then_ hd11.below)
        replace HEc := Aside0.mk (HEc.out.then_ hd11.below)
        clear hd11 HSa
        go_wp2_with fail
        go_at_call 10
        refine (hlx.out HEa.out).mono ?_
        rintro _ w12 ⟨A12, c12, rfl, hc12, hC12, hb12⟩
        replace HEa := Aside0.mk (HEa.out.then_ hb12)
        replace HEb := Aside0.mk (HEb.out.then_ hb12)
        replace HEc := Aside0.mk (HEc.out.then_ hb12)
        go_wp2_with fail
        go_at_call 10
        refine (hlx.out HEc.out).mono ?_
        rintro _ w13 ⟨A13, c13, rfl, hc13, hC13, hb13⟩
        replace HEa := Aside0.mk (HEa.out.then_ hb13)
        replace HEb := Aside0.mk (HEb.out.then_ hb13)
        replace HEc := Aside0.mk (HEc.out.then_ hb13)
        have HSa := Aside0.mk (same11 (w := w13) (A := A12) (B := A13) (c := c12) (d := c13) (l := S) (by rw [Hm.out]; exact Kd.C_below hC12 hb13) (by rw [Hm.out]; exact hc12) (by rw [Hm.out]; exact hC13) (by rw [Hm.out]; exact hc13) (Nat.le_trans HSl.out (by omega)))
        rw [Hm.out] at HSa
        clear hc12 hC12 hb12 hc13 hC13 hb13
        go_wp2_with fail
        go_at_call 11
        refine HSa.out.mono ?_
        rintro _ w14 ⟨rfl, hd14⟩
        replace HEa := Aside0.mk (HEa.out.then_ hd14.below)
        replace HEb := Aside0.mk (HEb.out.then_ hd14.below)
        replace HEc := Aside0.mk (HEc.out.then_ hd14.below)
        clear hd14 HSa
        go_wp2_with fail
        go_at_call 10
        refine (hlx.out HEa.out).mono ?_
        rintro _ w15 ⟨A15, c15, rfl, hc15, hC15, hb15⟩
        replace HEa := Aside0.mk (HEa.out.then_ hb15)
        replace HEb := Aside0.mk (HEb.out.then_ hb15)
        replace HEc := Aside0.mk (HEc.out.then_ hb15)
        have HC5 := Aside0.mk hC15
        clear hC15 hb15 hc15
        go_wp2_with fail
        have HBw := Aside0.mk HEa.out.below
        clear HEa HEb HEc hlx
        obtain ⟨wx, hwx⟩ : ∃ wx, w15 = wx := ⟨_, rfl⟩
        rw [hwx] at HC5 HBw
        go_loopw [14] (fun i W => ∃ j : Nat, j ≤ m ∧ i = .int .i64 j ∧ Aside0 (Below wx.heap.size wx W)) (fun i _ => m - (intOf i).toNat)
        case atStart => exact ⟨0, Nat.zero_le _, rfl, ⟨by rw [hwx]; exact Below.refl _ _⟩⟩
        case round =>
          clear hwx
          obtain ⟨j, hj, rfl, HB⟩ := hrel
          by_cases hjm : j < m
          · clear hj
            obtain ⟨x, hx⟩ : ∃ x, rd_T27 S (j : Int) = x := ⟨_, rfl⟩
            have hC := Kd.C_below HC5.out HB.out
            obtain ⟨ad, eA, x0, x1, x2⟩ := at_T27 hC (j : Int) (by omega) (by omega)
            subst eA
            rw [hx] at x0 x1 x2
            rw [Int.toNat_natCast] at x0 x1 x2
            have hx3 := HS.out.full x (by rw [← hx]; exact rd_mem (by rw [Hm.out]; exact hjm))
            have t1 : Op.bytesLess x.f0.toList x.f1.toList = true := less_true.mpr hx3
            have HX := Aside0.mk hx
            by_cases hj0 : 0 < j
            rotate_left
            · clear hx hC hx3
              go_wp2_with fail
              go_quiet (fail)
              go_wp2_with fail
              go_roundw
              case measure => simp [intOf]; omega
              case rel => exact ⟨j + 1, by omega, by go_num, ⟨pw_below_drewN HB.out _⟩⟩
            · obtain ⟨y, hy⟩ : ∃ y, rd_T27 S ((j - 1 : Nat) : Int) = y := ⟨_, rfl⟩
              obtain ⟨ad2, eA, y0, y1, y2⟩ := at_T27 hC ((j - 1 : Nat) : Int) (by omega) (by omega)
              obtain rfl : ad = ad2 := by injection eA
              rw [hy] at y0 y1 y2
              rw [Int.toNat_natCast] at y0 y1 y2
              have hpr := List.pairwise_iff_getElem.mp HS.out.ord (j - 1) j (by rw [Hm.out]; omega) (by rw [Hm.out]; omega) (by omega)
              have ex : S[j]'(by rw [Hm.out]; omega) = x := by rw [← hx]; simp [rd_T27, (show j < S.length by rw [Hm.out]; omega)]
              have ey : S[j - 1]'(by rw [Hm.out]; omega) = y := by rw [← hy]; simp [rd_T27, (show j - 1 < S.length by rw [Hm.out]; omega)]
              rw [ex, ey] at hpr
              have t2 : Op.bytesLess x.f0.toList y.f1.toList = false := less_false.mpr hpr.1
              have HPR := Aside0.mk hpr
              clear hx hC hx3 hpr ex ey hy eA
              by_cases hq : y.f1 = x.f0
              · have t3 : (y.f1.toList == x.f0.toList) = true := eq_true.mpr hq
                have t4 : (y.f2 == x.f2) = false := by simpa using HPR.out.2 hq
                clear hq
                go_wp2_with fail
                go_quiet (fail)
                go_wp2_with fail
                go_roundw
                case measure => simp [intOf]; omega
                case rel => exact ⟨j + 1, by omega, by go_num, ⟨pw_below_drewN HB.out _⟩⟩
              · have t3 : (y.f1.toList == x.f0.toList) = false := by rw [← Bool.not_eq_true, eq_true]; exact hq
                clear hq
                go_wp2_with fail
                go_quiet (fail)
                go_wp2_with fail
                go_roundw
                case measure => simp [intOf]; omega
                case rel => exact ⟨j + 1, by omega, by go_num, ⟨pw_below_drewN HB.out _⟩⟩
          · go_wp2_with fail
            go_ret
            exact ⟨rfl, below_then HBw.out HBw.out.size HB.out⟩
  · rw [if_neg hneg] at hT
    subst hT
    clear hneg hR1
    go_wp2_with fail
    go_loopw [5, 6] (fun v i W => ∃ k : Nat, k ≤ n ∧ i = .int .i64 k ∧ Aside0 (Kd.R k27 27 W w.heap.size (fun _ => True) v (turned l T k)) ∧ Aside0 (Below w.heap.size w W)) (fun _ i _ => n - (intOf i).toNat)
    case atStart => exact ⟨0, Nat.zero_le _, rfl, ⟨Kd.R_nil _ _ _ _ _⟩, HB⟩
    case round =>
      clear HB
      obtain ⟨k, hk, rfl, HO, HB⟩ := hrel
      by_cases hkn : k < n
      · obtain ⟨x, hx⟩ : ∃ x, rd_T27 l (((k + T) % n : Nat) : Int) = x := ⟨_, rfl⟩
        have hC := Kd.C_below HC.out HB.out
        have hmod := Nat.mod_lt (k + T) h0
        have hm0 := Int.emod_nonneg ((k : Int) + T) (show (n : Int) ≠ 0 by omega)
        have hm1 := Int.emod_lt_of_pos ((k : Int) + T) (show (0 : Int) < n by omega)
        obtain ⟨ad, eA, x0, x1, x2⟩ := at_T27 hC (((k + T) % n : Nat) : Int) (by omega) (by omega)
        subst eA
        rw [hx] at x0 x1 x2
        rw [Int.toNat_natCast] at x0 x1 x2
        have HX := Aside0.mk (show turned l T (k + 1) = turned l T k ++ [x] from by rw [turned_next, HN.out, hx])
        clear hx hC
        go_wp2_with ((with_reducible refine gate_builtin (b := .append) (xs := #[.tmp 41, .tmp 51]) rfl ?_); refine Kd.R_append k27 w.heap.size rfl (.tmp 41) (.tmp 51) 22 27 _ 40 rfl Try.underlying22 info27 rfl (by decide) (by decide) _ (turned l T k) x [.string x.f0, .string x.f1, .int .u64 x.f2] (fun _ => True) (fun _ => False) rfl rfl (k27_mkM _ _ _ x) (fun _ h => h.elim) (fun _ _ => trivial) HO.out HB.out HB.out.size (by rw [turned_length]; omega) ?_; intro v1 w1 hR1 hB1 hg1 hat; clear hat hg1; replace HB := Aside0.mk hB1; have HO1 := Aside0.mk hR1; clear hR1 hB1)
        go_roundw
        case measure => simp [intOf]; omega
        case rel => exact ⟨k + 1, by omega, by go_num, ⟨by rw [HX.out]; exact HO1.out⟩, HB⟩
      · obtain rfl : k = n := by omega
        obtain ⟨A1, c1, e1, hc1, hC1⟩ := Kd.R_reads HO.out
        rw [turned_length] at e1 hc1 hC1
        subst e1
        have HM := Aside0.mk (fun (W : World) (hb : Below wr.heap.size wr W) => new_ok (w := W) (A := A1) (c := c1) (l := turned l T k) (by rw [turned_length]; exact Kd.C_below hC1 hb) (by rw [turned_length]; omega))
        rw [turned_length] at HM
        have hl4 : l.length ≤ 40000 := by rw [HN.out]; omega
        have hl3 := Aside0.mk hl4
        have hTl : T < l.length := by rw [HN.out]; exact hTn
        have hokm := turned_ok hTl
        have hallm := fun hv => turned_all (l := l) hTl hv
        rw [HN.out] at hokm hallm
        have HOK := Aside0.mk hokm
        have HALL := Aside0.mk hallm
        clear hc1 hC1 hTl hokm hallm hl4 HO
        go_wp2_with fail
        go_at_call 9
        refine (HNw.out _ HB.out (by omega)).mono ?_
        rintro r w5 ⟨hb5, hr⟩
        have HB5 := Aside0.mk (below_then HB.out HB.out.size hb5)
        have Hb5 := Aside0.mk hb5
        clear hb5
        by_cases hok : allOk l = true
        rotate_left
        · rw [if_neg hok] at hr
          subst hr
          have HNO := Aside0.mk hok
          clear hok
          go_wp2_with fail
          go_at_call 9
          refine (HM.out _ Hb5.out).mono ?_
          rintro r w6 ⟨hb6, hr⟩
          rw [HOK.out, if_neg HNO.out] at hr
          subst hr
          have HB6 := Aside0.mk (below_then HB5.out HB5.out.size hb6)
          clear hb6
          go_wp2_with fail
          go_ret
          exact ⟨rfl, HB6.out⟩
        rw [if_pos hok] at hr
        obtain ⟨ga, rfl, hEa⟩ := hr
        have hv : ∀ x ∈ l, x.f0 < x.f1 := fun x hx => by simpa using List.all_eq_true.mp hok x hx
        have HS := Aside0.mk (all_spec hv).1
        have hSl : (addAll l).length ≤ 30000 := by have := all_len hv; rw [HN.out] at this; omega
        have hsm := HALL.out hv
        have HYES := Aside0.mk hok
        have hEa2 := hEa.old HB.out
        generalize addAll l = S at HS hSl hsm hEa2
        have HEa := Aside0.mk hEa2
        have HSM := Aside0.mk hsm
        clear hEa hEa2 hv hsm hok HALL
        go_wp2_with fail
        go_at_call 9
        refine (HM.out _ Hb5.out).mono ?_
        rintro r w6 ⟨hb6, hr⟩
        rw [HOK.out, if_pos HYES.out, HSM.out] at hr
        obtain ⟨gb, rfl, hEb⟩ := hr
        have HEb := Aside0.mk (hEb.old HB5.out)
        replace HEa := Aside0.mk (HEa.out.then_ hb6)
        clear hEb hb6 HOK HYES HSM HM HNw HF
        obtain ⟨m, hm⟩ : ∃ m, S.length = m := ⟨_, rfl⟩
        rw [hm] at hSl
        have HSl := Aside0.mk (show S.length ≤ 1000000 by rw [hm]; omega)
        have Hm := Aside0.mk hm
        clear hm
        have hlx := Aside0.mk (fun {W : World} {g : Nat} (h : Es w W g S) => listX h HSl.out)
        rw [Hm.out] at hlx
        go_wp2_with fail
        go_at_call 10
        refine (hlx.out HEa.out).mono ?_
        rintro _ w7 ⟨A2, c2, rfl, hc2, hC2, hb7⟩
        replace HEa := Aside0.mk (HEa.out.then_ hb7)
        replace HEb := Aside0.mk (HEb.out.then_ hb7)
        have HNc := Aside0.mk (new_ok (w := w7) (A := A2) (c := c2) (l := S) (by rw [Hm.out]; exact hC2) (by rw [Hm.out]; omega))
        rw [Hm.out] at HNc
        clear hc2 hC2 hb7
        go_wp2_with fail
        go_at_call 9
        refine HNc.out.mono ?_
        rintro r w8 ⟨hb8, hr⟩
        rw [if_pos (cano_ok HS.out), again_all HS.out] at hr
        obtain ⟨gc, rfl, hEc⟩ := hr
        have HEc := Aside0.mk (hEc.old HEa.out.below)
        replace HEa := Aside0.mk (HEa.out.then_ hb8)
        replace HEb := Aside0.mk (HEb.out.then_ hb8)
        clear hEc hb8 HNc
        go_wp2_with fail
        go_at_call 10
        refine (hlx.out HEa.out).mono ?_
        rintro _ w9 ⟨A9, c9, rfl, hc9, hC9, hb9⟩
        replace HEa := Aside0.mk (HEa.out.then_ hb9)
        replace HEb := Aside0.mk (HEb.out.then_ hb9)
        replace HEc := Aside0.mk (HEc.out.then_ hb9)
        go_wp2_with fail
        go_at_call 10
        refine (hlx.out HEb.out).mono ?_
        rintro _ w10 ⟨A10, c10, rfl, hc10, hC10, hb10⟩
        replace HEa := Aside0.mk (HEa.out.then_ hb10)
        replace HEb := Aside0.mk (HEb.out.then_ hb10)
        replace HEc := Aside0.mk (HEc.out.then_ hb10)
        have HSa := Aside0.mk (same11 (w := w10) (A := A9) (B := A10) (c := c9) (d := c10) (l := S) (by rw [Hm.out]; exact Kd.C_below hC9 hb10) (by rw [Hm.out]; exact hc9) (by rw [Hm.out]; exact hC10) (by rw [Hm.out]; exact hc10) (Nat.le_trans HSl.out (by omega)))
        rw [Hm.out] at HSa
        clear hc9 hC9 hb9 hc10 hC10 hb10
        go_wp2_with fail
        go_at_call 11
        refine HSa.out.mono ?_
        rintro _ w11 ⟨rfl, hd11⟩
        replace HEa := Aside0.mk (HEa.out.then_ hd11.below)
        replace HEb := Aside0.mk (HEb.out.then_ hd11.below)
        replace HEc := Aside0.mk (HEc.out.then_ hd11.below)
        clear hd11 HSa
        go_wp2_with fail
        go_at_call 10
        refine (hlx.out HEa.out).mono ?_
        rintro _ w12 ⟨A12, c12, rfl, hc12, hC12, hb12⟩
        replace HEa := Aside0.mk (HEa.out.then_ hb12)
        replace HEb := Aside0.mk (HEb.out.then_ hb12)
        replace HEc := Aside0.mk (HEc.out.then_ hb12)
        go_wp2_with fail
        go_at_call 10
        refine (hlx.out HEc.out).mono ?_
        rintro _ w13 ⟨A13, c13, rfl, hc13, hC13, hb13⟩
        replace HEa := Aside0.mk (HEa.out.then_ hb13)
        replace HEb := Aside0.mk (HEb.out.then_ hb13)
        replace HEc := Aside0.mk (HEc.out.then_ hb13)
        have HSa := Aside0.mk (same11 (w := w13) (A := A12) (B := A13) (c := c12) (d := c13) (l := S) (by rw [Hm.out]; exact Kd.C_below hC12 hb13) (by rw [Hm.out]; exact hc12) (by rw [Hm.out]; exact hC13) (by rw [Hm.out]; exact hc13) (Nat.le_trans HSl.out (by omega)))
        rw [Hm.out] at HSa
        clear hc12 hC12 hb12 hc13 hC13 hb13
        go_wp2_with fail
        go_at_call 11
        refine HSa.out.mono ?_
        rintro _ w14 ⟨rfl, hd14⟩
        replace HEa := Aside0.mk (HEa.out.then_ hd14.below)
        replace HEb := Aside0.mk (HEb.out.then_ hd14.below)
        replace HEc := Aside0.mk (HEc.out.then_ hd14.below)
        clear hd14 HSa
        go_wp2_with fail
        go_at_call 10
        refine (hlx.out HEa.out).mono ?_
        rintro _ w15 ⟨A15, c15, rfl, hc15, hC15, hb15⟩
        replace HEa := Aside0.mk (HEa.out.then_ hb15)
        replace HEb := Aside0.mk (HEb.out.then_ hb15)
        replace HEc := Aside0.mk (HEc.out.then_ hb15)
        have HC5 := Aside0.mk hC15
        clear hC15 hb15 hc15
        go_wp2_with fail
        have HBw := Aside0.mk HEa.out.below
        clear HEa HEb HEc hlx
        obtain ⟨wx, hwx⟩ : ∃ wx, w15 = wx := ⟨_, rfl⟩
        rw [hwx] at HC5 HBw
        go_loopw [14] (fun i W => ∃ j : Nat, j ≤ m ∧ i = .int .i64 j ∧ Aside0 (Below wx.heap.size wx W)) (fun i _ => m - (intOf i).toNat)
        case atStart => exact ⟨0, Nat.zero_le _, rfl, ⟨by rw [hwx]; exact Below.refl _ _⟩⟩
        case round =>
          clear hwx
          obtain ⟨j, hj, rfl, HB⟩ := hrel
          by_cases hjm : j < m
          · clear hj
            obtain ⟨x, hx⟩ : ∃ x, rd_T27 S (j : Int) = x := ⟨_, rfl⟩
            have hC := Kd.C_below HC5.out HB.out
            obtain ⟨ad, eA, x0, x1, x2⟩ := at_T27 hC (j : Int) (by omega) (by omega)
            subst eA
            rw [hx] at x0 x1 x2
            rw [Int.toNat_natCast] at x0 x1 x2
            have hx3 := HS.out.full x (by rw [← hx]; exact rd_mem (by rw [Hm.out]; exact hjm))
            have t1 : Op.bytesLess x.f0.toList x.f1.toList = true := less_true.mpr hx3
            have HX := Aside0.mk hx
            by_cases hj0 : 0 < j
            rotate_left
            · clear hx hC hx3
              go_wp2_with fail
              go_quiet (fail)
              go_wp2_with fail
              go_roundw
              case measure => simp [intOf]; omega
              case rel => exact ⟨j + 1, by omega, by go_num, ⟨pw_below_drewN HB.out _⟩⟩
            · obtain ⟨y, hy⟩ : ∃ y, rd_T27 S ((j - 1 : Nat) : Int) = y := ⟨_, rfl⟩
              obtain ⟨ad2, eA, y0, y1, y2⟩ := at_T27 hC ((j - 1 : Nat) : Int) (by omega) (by omega)
              obtain rfl : ad = ad2 := by injection eA
              rw [hy] at y0 y1 y2
              rw [Int.toNat_natCast] at y0 y1 y2
              have hpr := List.pairwise_iff_getElem.mp HS.out.ord (j - 1) j (by rw [Hm.out]; omega) (by rw [Hm.out]; omega) (by omega)
              have ex : S[j]'(by rw [Hm.out]; omega) = x := by rw [← hx]; simp [rd_T27, (show j < S.length by rw [Hm.out]; omega)]
              have ey : S[j - 1]'(by rw [Hm.out]; omega) = y := by rw [← hy]; simp [rd_T27, (show j - 1 < S.length by rw [Hm.out]; omega)]
              rw [ex, ey] at hpr
              have t2 : Op.bytesLess x.f0.toList y.f1.toList = false := less_false.mpr hpr.1
              have HPR := Aside0.mk hpr
              clear hx hC hx3 hpr ex ey hy eA
              by_cases hq : y.f1 = x.f0
              · have t3 : (y.f1.toList == x.f0.toList) = true := eq_true.mpr hq
                have t4 : (y.f2 == x.f2) = false := by simpa using HPR.out.2 hq
                clear hq
                go_wp2_with fail
                go_quiet (fail)
                go_wp2_with fail
                go_roundw
                case measure => simp [intOf]; omega
                case rel => exact ⟨j + 1, by omega, by go_num, ⟨pw_below_drewN HB.out _⟩⟩
              · have t3 : (y.f1.toList == x.f0.toList) = false := by rw [← Bool.not_eq_true, eq_true]; exact hq
                clear hq
                go_wp2_with fail
                go_quiet (fail)
                go_wp2_with fail
                go_roundw
                case measure => simp [intOf]; omega
                case rel => exact ⟨j + 1, by omega, by go_num, ⟨pw_below_drewN HB.out _⟩⟩
          · go_wp2_with fail
            go_ret
            exact ⟨rfl, below_then HBw.out HBw.out.size HB.out⟩
end Go.Proofs.Ytpfkfnphjbgohaa.El
