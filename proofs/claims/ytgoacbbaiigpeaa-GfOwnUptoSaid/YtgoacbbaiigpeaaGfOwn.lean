/-
  GfOwn: the law's walk.
-/
import Derived.Test.YtgoacbbaiigpeaaGfSpoil
import Derived.Test.YtgoacbbaiigpeaaMExt
import Derived.Test.YtgoacbbaiigpeaaGfMx
import Derived.BigRegion
set_option linter.unusedVariables false
set_option linter.unusedSimpArgs false
namespace Go.Proofs.Ytgoacbbaiigpeaa.Gf
open Go.RowKit Go.Proofs.YtgoacbbaiigpeaaW.PrintWords Go.Proofs.YtgoacbbaiigpeaaW.PrintLast Go.Proofs.Ytgoacbbaiigpeaa.PGa
open Go.Proofs.Ytgoacbbaiigpeaa.PGb (info53 flintlaw5_few.calls flintlaw5_Same.calls)

theorem sum_len (l : List (List Int)) : l.length ≤ (l.map fun r => r.length + 1).sum := by
  induction l with
  | nil => simp
  | cons a l ih => simp only [List.map_cons, List.sum_cons, List.length_cons]; omega
theorem sum_row (l : List (List Int)) : ∀ i, (row l i).length ≤ (l.map fun r => r.length + 1).sum := by
  induction l with
  | nil => intro i; simp [row]
  | cons a l ih =>
    intro i
    simp only [List.map_cons, List.sum_cons]
    cases i with
    | zero => show a.length ≤ _; omega
    | succ i => have := ih i; show (row l i).length ≤ _; omega
theorem take_row (l : List (List Int)) (i : Nat) (h : i < l.length) : l.take (i + 1) = l.take i ++ [row l i] := by
  rw [List.take_add_one, List.getElem?_eq_getElem h]
  simp [row, List.getD, h]
set_option maxRecDepth 100000 in
set_option maxHeartbeats 2000000 in
theorem own8_no (w : World) (l : List (List Int)) (ns : List Int) (A An : Option Addr) (c cn : Nat) (hM : KR.C w A l.length l) (hc : l.length ≤ c) (hb : (l.map fun r => r.length + 1).sum ≤ 1048576) (hno : 2000 < (l.map fun r => r.length + 1).sum ∨ 300 < ns.length) :
    Calls Try.prog 8 #[.slice A l.length c, .slice An ns.length cn] w fun e w' => e = .returned (.bool true) ∧ Below w.heap.size w w' := by
  have HK := Aside0.mk (flintlaw5_known.calls 400 true w (GaFacts.known_ok _ (by omega)))
  have HF : Aside0 (∀ W, Below w.heap.size w W → Calls Try.prog 21 #[.slice A l.length c] W fun e w' => e = .returned (.bool (decide ((l.map fun r => r.length + 1).sum ≤ 2000))) ∧ Drawn0 W w') := ⟨fun W hW => flintlaw5_few.calls 2000000 A c l _ W (Kd.C_below hM hW) hc (GbFacts.few_ok _ l hb (by omega))⟩
  clear hM hc hb
  by_cases hs : (l.map fun r => r.length + 1).sum ≤ 2000
  · have hn : 300 < ns.length := by omega
    have b2 : decide ((ns.length : Int) > 300) = true := decide_eq_true (by omega)
    rw [decide_eq_true hs] at HF
    clear hs hno hn
    go_enter Try.func8, Try.ntmps8
    go_wp2_with (first | (go_at_call 11; with_reducible refine Calls.mono HK.out ?_; rintro e w2 ⟨rfl, hB2⟩) | (go_at_call 21; with_reducible refine Calls.mono (HF.out _ hB2) ?_; rintro e w3 ⟨rfl, ⟨nd, rfl⟩⟩))
    go_ret
    exact ⟨rfl, pw_below_drewN hB2 nd⟩
  · rw [decide_eq_false hs] at HF
    clear hs hno
    go_enter Try.func8, Try.ntmps8
    go_wp2_with (first | (go_at_call 11; with_reducible refine Calls.mono HK.out ?_; rintro e w2 ⟨rfl, hB2⟩) | (go_at_call 21; with_reducible refine Calls.mono (HF.out _ hB2) ?_; rintro e w3 ⟨rfl, ⟨nd, rfl⟩⟩))
    go_ret
    exact ⟨rfl, pw_below_drewN hB2 nd⟩
set_option maxRecDepth 100000 in
set_option maxHeartbeats 4000000 in
theorem own8_yes (w : World) (l : List (List Int)) (ns : List Int) (A An : Option Addr) (c cn : Nat) (hM : KR.C w A l.length l) (hc : l.length ≤ c) (hN : KI.C w An ns.length ns) (hcn : ns.length ≤ cn) (ok : okB l = true) (hs : (l.map fun r => r.length + 1).sum ≤ 2000) (hn : ns.length ≤ 300) :
    Calls Try.prog 8 #[.slice A l.length c, .slice An ns.length cn] w fun e w' => e = .returned (.bool true) ∧ Below w.heap.size w w' := by
  have HK := Aside0.mk (flintlaw5_known.calls 400 true w (GaFacts.known_ok _ (by omega)))
  have HF : Aside0 (∀ W, Below w.heap.size w W → Calls Try.prog 21 #[.slice A l.length c] W fun e w' => e = .returned (.bool true) ∧ Drawn0 W w') := ⟨fun W hW => flintlaw5_few.calls 2000000 A c l _ W (Kd.C_below hM hW) hc (by rw [GbFacts.few_ok _ l (by omega) (by omega), decide_eq_true hs])⟩
  have b2 : decide ((ns.length : Int) > 300) = false := decide_eq_false (by omega)
  have hlen : l.length ≤ 2000 := by have := sum_len l; omega
  have HRl : Aside0 (∀ i, (row l i).length ≤ 2000) := ⟨fun i => by have := sum_row l i; omega⟩
  obtain ⟨⟨a1, a2⟩, hia, _⟩ := Pure.invF_some l ok
  obtain ⟨⟨b1, b3⟩, hib, hbl⟩ := Pure.rowsF_some l ns ok
  obtain ⟨⟨t1, t2⟩, hit, _⟩ := Pure.timesF_some l l ok ok
  obtain ⟨K, hK⟩ := Pure.rrows_ok l ns ok
  simp only at hbl
  have hK2 := hK K (Nat.le_refl _)
  simp only at hK2
  rw [hib] at hK2
  have HI : Aside0 (∀ W Am cm, KR.C W Am l.length l → Calls Try.prog 30 #[.slice Am l.length cm] W fun e w' => ∃ v0_ : Value, e = .returned (.tuple #[v0_, .int .i64 a2]) ∧ Sp w' W.heap.size w'.heap.size v0_ ∧ Below W.heap.size W w') := ⟨fun W Am cm h => (inv_calls Am cm l _ _ W h hia).mono (by
    rintro e w' ⟨v0, h1, h2, h3⟩
    exact ⟨v0, h1, sp_of_S h2, h3⟩)⟩
  have HRo : Aside0 (∀ W Am cm, KR.C W Am l.length l → Below w.heap.size w W → Calls Try.prog 29 #[.slice Am l.length cm, .slice An ns.length cn] W fun e w' => ∃ v0_ : Value, e = .returned (.tuple #[v0_, .int .i64 b3]) ∧ Kd.S KR 53 w' W.heap.size (fun _ => True) v0_ b1 ∧ Below W.heap.size W w') := ⟨fun W Am cm h hW => rows_calls Am cm l An cn ns _ _ W h (Kd.C_below hN hW) hib⟩
  have HT : Aside0 (∀ W Am cm, KR.C W Am l.length l → Calls Try.prog 31 #[.slice Am l.length cm, .slice Am l.length cm] W fun e w' => ∃ v0_ : Value, e = .returned (.tuple #[v0_, .int .i64 t2]) ∧ Sp w' W.heap.size w'.heap.size v0_ ∧ Below W.heap.size W w') := ⟨fun W Am cm h => (times_calls Am cm l Am cm l _ _ W h h hit).mono (by
    rintro e w' ⟨v0, h1, h2, h3⟩
    exact ⟨v0, h1, sp_of_S h2, h3⟩)⟩
  have HRR : Aside0 (∀ W, Below w.heap.size w W → Calls Try.prog 33 #[.slice A l.length c, .slice An ns.length cn] W fun e w' => ∃ v0_ : Value, e = .returned (.tuple #[v0_, .int .i64 b3]) ∧ Kd.S KR 53 w' W.heap.size (fun _ => True) v0_ b1 ∧ Below W.heap.size W w') := ⟨fun W hW => PGe.flintref5_Rows.calls K A c l An cn ns _ _ W (Kd.C_below hM hW) hc (Kd.C_below hN hW) hcn hK2⟩
  have HSm : Aside0 (∀ W Am cm, KR.C W Am l.length l → l.length ≤ cm → Below w.heap.size w W → Calls Try.prog 24 #[.slice Am l.length cm, .slice A l.length c] W fun e w' => e = .returned (.bool true) ∧ Drawn0 W w') := ⟨fun W Am cm h hcm hW => flintlaw5_Same.calls 2000000 Am cm l A c l true W h hcm (Kd.C_below hM hW) hc (GbFacts.same_refl _ l (by omega) (by omega))⟩
  have HSd : Aside0 (∀ W A1 c1 A2 c2, KR.C W A1 b1.length b1 → b1.length ≤ c1 → KR.C W A2 b1.length b1 → b1.length ≤ c2 → Calls Try.prog 24 #[.slice A1 b1.length c1, .slice A2 b1.length c2] W fun e w' => e = .returned (.bool true) ∧ Drawn0 W w') := ⟨fun W A1 c1 A2 c2 h1 h2 h3 h4 => flintlaw5_Same.calls 2000000 A1 c1 b1 A2 c2 b1 true W h1 h2 h3 h4 (GbFacts.same_refl _ b1 (by omega) (by omega))⟩
  have HC : Aside0 (∀ i, i < l.length → ∃ ad A' c', A = some ad ∧ w.cell? (ad.add i) = some (.slice A' (row l i).length c') ∧ (row l i).length ≤ c' ∧ KB.C w A' (row l i).length (row l i)) := ⟨fun i hi => by
    obtain ⟨ad, A', c', e, h1, h2, h3⟩ := rows_at hM hi
    exact ⟨ad, A', c', e, h1, h2, h3⟩⟩
  clear hM hc hN hcn ok hs hn hia hib hit hK hK2 hbl
  go_enter Try.func8, Try.ntmps8
  go_wp2_with (first | (go_at_call 11; with_reducible refine Calls.mono HK.out ?_; rintro e w2 ⟨rfl, hB2⟩; clear HK) | (go_at_call 21; with_reducible refine Calls.mono (HF.out _ hB2) ?_; rintro e w3 ⟨rfl, ⟨nd, rfl⟩⟩; have hB3 := pw_below_drewN hB2 nd; clear HF))
  have hS0 : Kd.S KR 53 (w2.drewN nd) w.heap.size (fun _ => True) (.slice none 0 0) (l.take 0) := by rw [List.take_zero]; exact Kd.S_nil _ _ _ _ _
  generalize w2.drewN nd = w3 at *
  clear hB2
  go_loopw [6, 5] (fun v u wr => ∃ i : Nat, i ≤ l.length ∧ v = .int .i64 (i : Nat) ∧ Kd.S KR 53 wr w.heap.size (fun _ => True) u (l.take i) ∧ Below w.heap.size w wr) (fun v _ _ => l.length - (intOf v).toNat)
  case atStart => exact ⟨0, Nat.zero_le _, rfl, hS0, hB3⟩
  case round =>
    clear hS0 hB3
    obtain ⟨i, hi, rfl, hS, hB⟩ := hrel
    by_cases hlt : i < l.length
    · obtain ⟨ad, A', c', rfl, hcell, hle, hI⟩ := HC.out i hlt
      replace hcell := pw_cell_below hB hcell
      have HI2 := Aside0.mk hI
      have HO := Aside0.mk hS
      have HB := Aside0.mk hB
      have q1 : (0 : Int) ≤ (i : Int) := by omega
      have q2 : (i : Int) < (l.length : Int) := by omega
      have HL : Aside0 ((l.take i).length = i) := ⟨by simp; omega⟩
      have HLr : Aside0 ((row l i).length ≤ 2000) := ⟨HRl.out i⟩
      have HM2 : Aside0 (l.take (i + 1) = l.take i ++ [row l i]) := ⟨take_row l i hlt⟩
      clear hI hS hB HI HRo HT HRR HSm HSd HRl HC
      generalize row l i = ri at *
      generalize hmi : l.take i = mi at *
      clear hmi
      go_wp2_with (first
        | ((with_reducible refine gate_dst (N := 34) rfl ?_); (try (refine gate_guard (by rfl) ?_; dsimp only)); refine Kd.R_lit (Kd.int .u8) _ 5 ?hg (N := 34) ?hd (xs := ([] : List Int)) (inner := []) (ok := fun _ => True) (okp := fun _ => True) ?hr ?hp (fun _ hk => hk) trivial (Below.refl _ _) (Nat.le_refl _) (by simp) ?_; (case hd => rfl); (case hg => rfl); (case hr => first | (go_simp; done) | (go_simp; rfl)); (case hp => exact (Reps.none _ _)); intro v148 w16 ho17 hb hg_ hnew_; clear hg_ hnew_;
           have n0_ := Aside0.mk (Kd.S_elder' HO.out (Kd.R_base ho17) hb); have n1_ := Aside0.mk (Kd.R_lower ho17 (below_size HB.out)); have n2_ := Aside0.mk (below_step HB.out hb); replace hcell := pw_cell_below hb hcell; clear HO; clear HB; have HO := n0_; have HO2 := n1_; have HB := n2_; clear n0_ n1_ n2_; clear hb ho17)
        | ((with_reducible refine gate_builtin (b := .append) (xs := #[.tmp 34, .tmp 38]) rfl ?_); (try (refine gate_guard (by rfl) ?_; dsimp only)); at_builtin; refine Kd.R_append_rows (Kd.int .u8) (w0 := w) w.heap.size rfl (.tmp 34) (.tmp 38) 53 5 (.int .u8 0) 1 rfl Try.underlying53 info5 rfl (by decide) (by omega) v148 [] ri _ _ _ (fun _ => True) (fun _ => False) rfl rfl HO2.out (Kd.C_below HI2.out HB.out) (fun _ _ h => h) (fun _ h => h.elim) (fun _ _ => trivial) HB.out (below_size HB.out) (by have := HLr.out; simp; omega) ?_; intro v153 w18 ho hb hg hat; rw [List.nil_append] at ho;
           have n0_ := Aside0.mk (Kd.S_after (ok := (fun _ => True)) HO.out hg hat); have n1_ := Aside0.mk hb; have n2_ := Aside0.mk ho; clear HO; clear HB; clear HO2; have HO := n0_; have HB := n1_; have HO3 := n2_; clear n0_ n1_ n2_; clear ho hb hg hat; obtain ⟨Ao20, co20, eo20⟩ := Kd.R_slice HO3.out; subst eo20)
        | ((with_reducible refine gate_builtin (b := .append) (xs := #[.tmp 33, .tmp 40]) rfl ?_); (try (refine gate_guard (by rfl) ?_; dsimp only)); at_builtin; refine Kd.S_append (Kd.slice 5 (Kd.int .u8)) (w0 := w) w.heap.size rfl (.tmp 33) (.tmp 40) 38 53 (.slice none 0 0) 24 rfl Try.underlying38 info53 rfl (by decide) (by omega) u5 mi ri [.slice Ao20 ri.length co20] (fun _ => True) (fun k_ => some k_ = (.slice Ao20 ri.length co20 : Value).ownBlock) rfl rfl ?aP (fun k_ hk_ => ((Kd.R_mono (ok' := fun k_ => ((fun _ => True)) k_ ∧ some k_ ≠ (u5 : Value).ownBlock) (Kd.R_apart' (HO3.out) (Kd.S_typed HO.out) (by decide)) (fun k_ hk => ⟨trivial, hk.2⟩))).1 k_ hk_.symm) (fun _ _ => trivial) ?aO HB.out (below_size HB.out) (by rw [HL.out]; omega) ?_;
           (case aP => exact Kd.M_row (Kd.R_mono (Kd.R_tight rfl (Kd.R_mono (ok' := fun k_ => ((fun _ => True)) k_ ∧ some k_ ≠ (u5 : Value).ownBlock) (Kd.R_apart' (HO3.out) (Kd.S_typed HO.out) (by decide)) (fun k_ hk => ⟨trivial, hk.2⟩))) (fun _ h_ => h_))); (case aO => exact Kd.S_mono HO.out (fun k_ hk => ⟨trivial, fun e_ => hk.2 e_⟩)); intro v156 w19 ho hb hg hat; rw [← HM2.out] at ho))
      go_roundw
      case rel => exact ⟨i + 1, by omega, by go_num, ho, hb⟩
      case measure => simp [intOf]; omega
    · obtain rfl : i = l.length := by omega
      rw [List.take_length] at hS
      obtain ⟨Am, cm, e⟩ := Kd.S_slice hS
      subst e
      obtain ⟨_, hcm, hCm⟩ := Kd.S_reads' hS
      have HCm := Aside0.mk (fun W (h : Below wr.heap.size wr W) => Kd.C_below hCm h)
      have HBs := Aside0.mk hB
      have H30 := Aside0.mk (HI.out wr Am cm hCm)
      clear hS hCm hB HI
      go_wp2_with (first
        | (go_at_call 30; with_reducible refine Calls.mono H30.out ?_; rintro e w4 ⟨va, rfl, hSa, hBa⟩; clear H30; have hs4 := hBa.size; have HSa := Aside0.mk hSa; have HBa := Aside0.mk hBa; clear hSa hBa; have H29 := Aside0.mk (HRo.out w4 Am cm (HCm.out _ HBa.out) (HBs.out.trans (HBa.out.mono HBs.out.size))))
        | (go_at_call 29; with_reducible refine Calls.mono H29.out ?_; rintro e w5 ⟨vb, rfl, hSb, hBb⟩; clear H29; have HSb := Aside0.mk (sp_of_S hSb); have HBb := Aside0.mk (HBa.out.trans (hBb.mono HBa.out.size)); have HSa2 := Aside0.mk (HSa.out.keep (fun k h1 h2 => hBb.block k h2)); have hs5 := hBb.size; clear hSb hBb HSa HBa; have H31 := Aside0.mk (HT.out w5 Am cm (HCm.out _ HBb.out)))
        | (go_at_call 31; with_reducible refine Calls.mono H31.out ?_; rintro e w6 ⟨vc, rfl, hSc, hBc⟩; clear H31; have HSc := Aside0.mk hSc; have HBc := Aside0.mk (HBb.out.trans (hBc.mono HBb.out.size)); have HSb2 := Aside0.mk (HSb.out.keep (fun k h1 h2 => hBc.block k h2)); have H32 := Aside0.mk (spoil32 w6 _ _ va (HSa2.out.keep (fun k h1 h2 => hBc.block k (by omega)))); have hs6 := hBc.size; clear hSc hBc HSa2 HBb HSb)
        | (go_at_call 32; with_reducible refine Calls.mono H32.out ?_; rintro e w7 ⟨rfl, hO7a, hO7b⟩; clear H32; have H32b := Aside0.mk (spoil32 w7 _ _ vb (HSb2.out.keep (fun k h1 h2 => hO7b k h1))); have HSc2 := Aside0.mk (HSc.out.keep (fun k h1 h2 => hO7b k (by omega))); have HB7 := Aside0.mk (HBc.out.trans hO7a); clear hO7a hO7b HSb2 HSc HBc)
        | (go_at_call 32; with_reducible refine Calls.mono H32b.out ?_; rintro e w8 ⟨rfl, hO8a, hO8b⟩; clear H32b; have H32c := Aside0.mk (spoil32 w8 _ _ vc (HSc2.out.keep (fun k h1 h2 => hO8b k h1))); have HB8 := Aside0.mk (HB7.out.trans (hO8a.mono (by omega))); clear hO8a hO8b HSc2 HB7)
        | (go_at_call 32; with_reducible refine Calls.mono H32c.out ?_; rintro e w9 ⟨rfl, hO9a, hO9b⟩; clear H32c; have HB9 := Aside0.mk (HB8.out.trans (hO9a.mono (by omega))); clear hO9a hO9b HB8; have H24 := Aside0.mk (HSm.out w9 Am cm (HCm.out _ HB9.out) hcm (HBs.out.trans (HB9.out.mono HBs.out.size))))
        | (go_at_call 24; with_reducible refine Calls.mono H24.out ?_; rintro e w10 ⟨rfl, ⟨nd1, rfl⟩⟩; clear H24; have HB10 := Aside0.mk (pw_below_drewN HB9.out nd1); clear HB9; have H29b := Aside0.mk (HRo.out _ Am cm (HCm.out _ HB10.out) (HBs.out.trans (HB10.out.mono HBs.out.size))))
        | (go_at_call 29; with_reducible refine Calls.mono H29b.out ?_; rintro e w11 ⟨vd, rfl, hSd, hBd⟩; clear H29b; have HB11 := Aside0.mk (HB10.out.trans (hBd.mono HB10.out.size)); have HSd2 := Aside0.mk hSd; clear hSd hBd HB10; have H33 := Aside0.mk (HRR.out w11 (HBs.out.trans (HB11.out.mono HBs.out.size))))
        | (go_at_call 33; with_reducible refine Calls.mono H33.out ?_; rintro e w12 ⟨vx, rfl, hSx, hBx⟩; clear H33; have HB12 := Aside0.mk (HB11.out.trans (hBx.mono HB11.out.size)); obtain ⟨Ad, cd, ed⟩ := Kd.S_slice HSd2.out; subst ed; obtain ⟨Ax, cx, ex⟩ := Kd.S_slice hSx; subst ex; obtain ⟨_, hd1, hd2⟩ := Kd.S_reads' HSd2.out; obtain ⟨_, hx1, hx2⟩ := Kd.S_reads' hSx; have H24b := Aside0.mk (HSd.out w12 Ad cd Ax cx (Kd.C_below hd2 hBx) hd1 hx2 hx1); clear hSx hBx HSd2 hd1 hd2 hx1 hx2 HB11)
        | (go_at_call 24; with_reducible refine Calls.mono H24b.out ?_; rintro e w13 ⟨rfl, ⟨nd2, rfl⟩⟩; clear H24b))
      go_ret
      exact ⟨rfl, pw_below_drewN (HBs.out.trans (HB12.out.mono HBs.out.size)) nd2⟩
/-- The law, as its frame wants it. -/
theorem gfOwn_calls (A0 : Option Addr) (c0 : Nat) (l0 : List (List Int)) (A1 : Option Addr) (c1 : Nat) (l1 : List Int) (r : Bool) (w : World) (hr0 : Kd.C (Kd.slice 5 (Kd.int .u8)) w A0 l0.length l0) (hc0 : l0.length ≤ c0) (hr1 : Kd.C (Kd.int .i64) w A1 l1.length l1) (hc1 : l1.length ≤ c1) (h : okB l0 = true ∧ (l0.map fun r => r.length + 1).sum ≤ 1048576 ∧ r = true) :
    Calls Try.prog 8 #[.slice A0 l0.length c0, .slice A1 l1.length c1] w fun e w' => e = .returned (.bool r) ∧ Below w.heap.size w w' := by
  obtain ⟨ok, hb, rfl⟩ := h
  by_cases hs : 2000 < (l0.map fun r => r.length + 1).sum ∨ 300 < l1.length
  · exact own8_no w l0 l1 A0 A1 c0 c1 hr0 hc0 hb hs
  · exact own8_yes w l0 l1 A0 A1 c0 c1 hr0 hc0 hr1 hc1 ok (by omega) (by omega)
end Go.Proofs.Ytgoacbbaiigpeaa.Gf
namespace Go.Proofs.Ytgoacbbaiigpeaa.Pure
open Go.Proofs.Ytgoacbbaiigpeaa.Gf
theorem GfOwn (l0 : List (List Int)) (l1 : List Int) (w0 : ∀ r ∈ l0, ∀ x ∈ r, (Lit.int .u8 x).wf = true) (hb : (l0.map fun r => r.length + 1).sum ≤ 1048576) (w1 : ∀ x ∈ l1, (Lit.int .i64 x).wf = true) (hb1 : l1.length ≤ 1048576) : okB l0 = true ∧ (l0.map fun r => r.length + 1).sum ≤ 1048576 ∧ true = true := ⟨okB_of w0, hb, rfl⟩
end Go.Proofs.Ytgoacbbaiigpeaa.Pure
