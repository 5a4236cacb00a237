/-
  The law RsAny: its walk.
-/
import Derived.Test.YtjolnjckgoilpaaRsGone
set_option linter.unusedVariables false
set_option linter.unusedSimpArgs false
namespace Go.Proofs.Ytjolnjckgoilpaa.Rs
open Go.RowKit Go.Proofs.YtjolnjckgoilpaaW.PrintWords Go.Proofs.YtjolnjckgoilpaaW.PrintLast Go.Proofs.YtjolnjckgoilpaaW.PrintMore Go.Proofs.Ytjolnjckgoilpaa.PRa Go.Proofs.Ytjolnjckgoilpaa.Gf
set_option maxHeartbeats 32000000 in
set_option maxRecDepth 100000 in
theorem any3 (w : World) (A : Option Addr) (ca : Nat) (a : List (List Int)) (hA : KR.C w A a.length a) (hca : a.length ≤ ca)
    (oka : okB a = true) (la : a.length ≤ 100000000) (sa : (a.map List.length).sum ≤ 100000000) (one two three : Int) :
    Calls Try.prog 3 #[.slice A a.length ca, .int .i64 one, .int .i64 two, .int .i64 three] w fun e w' => e = .returned (.bool true) ∧ Below w.heap.size w w' := by
  have HK := Aside0.mk (fun (W : World) => known8 W)
  have HFa := Aside0.mk (fun (W : World) (hW : Below w.heap.size w W) => few9 W A ca a (Kd.C_below hA hW) hca la sa)
  have HA := Aside0.mk hA
  have OKa := Aside0.mk oka
  obtain ⟨k, hk⟩ : ∃ k, a.length = k := ⟨_, rfl⟩
  rw [hk] at HFa HA ⊢
  have HKA := Aside0.mk hk
  have HCA := Aside0.mk (show k ≤ ca by omega)
  clear hA hca oka la sa hk
  go_enter Try.func3, Try.ntmps3
  by_cases h1 : 1 ≤ k
  · by_cases h2 : k ≤ 32
    · have d1 : decide ((k : Int) < 1) = false := decide_eq_false (by omega)
      have d2 : decide ((32 : Int) < (k : Int)) = false := decide_eq_false (by omega)
      cases h4 : fewB a
      · rw [h4] at HFa
        go_wp2_with (first | (go_at_call 8; refine Calls.mono (HK.out _) ?_; rintro e w1 ⟨rfl, hb⟩; have HB := Aside0.mk hb; clear hb) | (go_at_call 9; refine Calls.mono (HFa.out _ HB.out) ?_; rintro e w2 ⟨rfl, hd⟩; replace HB := Aside0.mk (below_then HB.out HB.out.size hd.below); clear hd))
        go_ret
        exact ⟨rfl, HB.out⟩
      · rw [h4] at HFa
        have HF4 := Aside0.mk h4
        clear h4
        obtain ⟨ad, A0, c0, eA, hx0, hl0, hi0⟩ := rows_at HA.out (i := 0) (by omega)
        subst eA
        rw [show ad.add 0 = ad by simp [Addr.add]] at hx0
        have HM4 := Aside0.mk (few_row HF4.out 0)
        obtain ⟨m, hm⟩ : ∃ m, (row a 0).length = m := ⟨_, rfl⟩
        rw [hm] at hx0 HM4
        have HX0 := Aside0.mk hx0
        have HMm := Aside0.mk hm
        clear hx0 hl0 hi0 hm
        by_cases h6 : m = 0
        · subst h6
          go_wp2_with (first | (go_at_call 8; refine Calls.mono (HK.out _) ?_; rintro e w1 ⟨rfl, hb⟩; have HB := Aside0.mk hb; clear hb) | ((go_at_call 9; refine Calls.mono (HFa.out _ HB.out) ?_; rintro e w2 ⟨rfl, hd⟩; replace HB := Aside0.mk (below_then HB.out HB.out.size hd.below); clear hd); clear HFa; have x0 := pw_cell_below HB.out HX0.out))
          go_ret
          exact ⟨rfl, HB.out⟩
        · have d6 : ((m : Int) == 0) = false := by simp; omega
          go_wp2_with (first | (go_at_call 8; refine Calls.mono (HK.out _) ?_; rintro e w1 ⟨rfl, hb⟩; have HB := Aside0.mk hb; clear hb) | ((go_at_call 9; refine Calls.mono (HFa.out _ HB.out) ?_; rintro e w2 ⟨rfl, hd⟩; replace HB := Aside0.mk (below_then HB.out HB.out.size hd.below); clear hd); clear HFa; have x0 := pw_cell_below HB.out HX0.out))
          clear HK d1 d2 d6
          have HM1 := Aside0.mk (show 0 < m by omega)
          go_loopw [10] (fun i W => ∃ (j : Nat), j ≤ k ∧ i = .int .i64 j ∧ Aside0 (∀ q, q < j → (row a q).length = m) ∧ Aside0 (Below w.heap.size w W)) (fun i _ => k - (intOf i).toNat)
          case atStart => exact ⟨0, Nat.zero_le _, rfl, ⟨fun q hq => absurd hq (Nat.not_lt_zero _)⟩, HB⟩
          case round =>
            clear HB
            obtain ⟨j, hj, rfl, HL, HB⟩ := hrel
            by_cases hjk : j < k
            · clear hj
              obtain ⟨ad', Aj, cj, eA, xa, la, ia⟩ := rows_at HA.out (i := j) hjk
              obtain rfl : ad = ad' := by injection eA
              replace xa := pw_cell_below HB.out xa
              have x0 := pw_cell_below HB.out HX0.out
              have hji : decide ((j : Int) < (k : Int)) = true := decide_eq_true (by omega)
              have hj0 : (0 : Int) ≤ (j : Int) := by omega
              have hj1 : (j : Int) < (k : Int) := by omega
              have hk0 : (0 : Int) < (k : Int) := by omega
              clear ia eA la
              obtain ⟨la, hla⟩ : ∃ la, (row a j).length = la := ⟨_, rfl⟩
              rw [hla] at xa
              have HLa := Aside0.mk hla
              clear hla
              go_wp2_with fail
              by_cases e1 : la = m
              · have f1 : ((la : Int) != (m : Int)) = false := by rw [e1]; simp
                have HE1 := Aside0.mk e1
                clear e1
                go_quiet (fail)
                go_wp2_with fail
                go_roundw
                case measure => simp [intOf]; omega
                case rel => exact ⟨j + 1, by omega, by go_num, ⟨fun p hp => if h : p < j then HL.out p h else (by obtain rfl : p = j := (by omega); rw [HLa.out, HE1.out])⟩, ⟨pw_below_drewN HB.out nq⟩⟩
              · have f1 : ((la : Int) != (m : Int)) = true := by simp; omega
                go_quiet (fail)
                go_wp2_with fail
                go_ret
                exact ⟨rfl, pw_below_drewN HB.out nq⟩
            · obtain rfl : j = k := by omega
              have hkk : decide ((j : Int) < (j : Int)) = false := decide_eq_false (by omega)
              have HN := Aside0.mk (fun (W : World) => (by refine (new10 W (j : Int)).mono ?_; rintro e w' ⟨hb, h⟩; rw [if_pos (by omega)] at h; obtain ⟨g, rfl, hg, hc⟩ := h; exact ⟨g, rfl, hc, hb⟩ : Calls Try.prog 10 #[.int .i64 j] W fun e w' => ∃ g, e = .returned (.tuple #[.pointer (some ⟨g, 0, none⟩), .int .i64 0]) ∧ CodeAt w' g j ∧ Below W.heap.size W w'))
              have HP := Aside0.mk (fun (W : World) (g : Nat) (hc : CodeAt W g j) (hW : Below w.heap.size w W) => parity11_ok W g j hc h1 h2 (some ad) ca a (Kd.C_below HA.out hW) HKA.out HCA.out m (by have := HM4.out; omega) OKa.out HL.out (sizes_rows (by rw [HKA.out]; exact HL.out)) (miss_rows HM1.out (by rw [HKA.out]; exact HL.out)))
              obtain ⟨hsD, hD, hRD⟩ := KH_of_KR HA.out
              have HDL := Aside0.mk (show hsD.length = j by rw [hRD.1, HKA.out])
              have HD := Aside0.mk hD
              have HRD := Aside0.mk hRD
              clear hkk hj hjk hD hRD
              go_wp2_with (first
                | (go_at_call 10; refine Calls.mono (HN.out _) ?_; rintro e w4 ⟨gc, rfl, hc, hb⟩; have HC4 := Aside0.mk hc; have HB4 := Aside0.mk (below_then HB.out HB.out.size hb); clear hc hb HB HN)
                | (go_at_call 11; refine Calls.mono (HP.out _ gc HC4.out HB4.out) ?_; rintro e w5 ⟨pb, p0, p1, rfl, hp⟩; have HB5 := Aside0.mk (below_then HB4.out HB4.out.size hp.below); have HC5 := Aside0.mk (HC4.out.below hp.below); have HR5 := Aside0.mk (rows_all (HRD.out.below HB5.out) hp (by have := HM4.out; omega)); have HPC := Aside0.mk (KH_pair' hp.top); have HD5 := Aside0.mk (Kd.C_below HD.out HB5.out); have HE5 := Aside0.mk (KH_empty w5 (Nat.le_refl w5.heap.size)); have HBe := Aside0.mk (below_alloc (Below.refl w5.heap.size w5) (.cells #[] 25)); clear hp HP HC4 HB4 HRD HD)
                | ((with_reducible refine gate_builtin (b := .append) (xs := #[.tmp 77, .tmp 78]) rfl ?_); refine Kd.R_append_rows KH (w0 := w5) w5.heap.size rfl (.tmp 77) (.tmp 78) 22 25 (.slice none 0 0) 24 rfl Try.underlying22 Go.Proofs.Ytjolnjckgoilpaa.PRa.info25 rfl (by decide) (by omega) (.slice (some ⟨w5.heap.size, 0, none⟩) 0 0) [] hsD _ _ _ (fun _ => True) (fun _ => False) rfl rfl HE5.out (Kd.C_below HD5.out HBe.out) (fun _ _ h => h) (fun _ h => h.elim) (fun _ _ => trivial) HBe.out HBe.out.size (by simp; omega) ?_
                   intro v6 w6 ho hb hg hat
                   rw [List.nil_append] at ho
                   have H6 := Aside0.mk ho
                   have HB6 := Aside0.mk hb
                   clear ho hb hg hat HE5 HBe)
                | ((with_reducible refine gate_builtin (b := .append) (xs := #[.tmp 79, .tmp 80]) rfl ?_); refine Kd.R_append_rows KH (w0 := w5) w5.heap.size rfl (.tmp 79) (.tmp 80) 22 25 (.slice none 0 0) 24 rfl Try.underlying22 Go.Proofs.Ytjolnjckgoilpaa.PRa.info25 rfl (by decide) (by omega) v6 hsD [(some ⟨p0, 0, none⟩, m, m), (some ⟨p1, 0, none⟩, m, m)] _ _ _ (fun _ => True) (fun _ => False) rfl rfl H6.out (Kd.C_below HPC.out HB6.out) (fun _ _ h => h) (fun _ h => h.elim) (fun _ _ => trivial) HB6.out HB6.out.size (by rw [HDL.out]; omega) ?_
                   intro v8 w8 ho hb hg hat
                   have hAL : (hsD ++ [(some ⟨p0, 0, none⟩, m, m), (some ⟨p1, 0, none⟩, m, m)] : List Hd).length = j + 2 := by rw [List.length_append, HDL.out]; rfl
                   generalize hGA : (hsD ++ [(some ⟨p0, 0, none⟩, m, m), (some ⟨p1, 0, none⟩, m, m)] : List Hd) = hsA at ho hAL HR5
                   have HB8 := Aside0.mk hb
                   obtain ⟨ab, cA, ev, hab, _⟩ := Kd.R_form ho (by rw [hAL]; omega)
                   rw [hAL] at ev
                   subst ev
                   have H8 := Aside0.mk ho
                   have HAL := Aside0.mk hAL
                   have HK8 := Aside0.mk (KH_len2 H8.out hAL).1
                   have HEE := Aside0.mk (KH_empty w8 (base := w5.heap.size) HB8.out.size)
                   have HBa := Aside0.mk (below_alloc HB8.out (.cells #[] 25))
                   have HKa := Aside0.mk (Kd.C_below HK8.out (below_alloc (Below.refl w8.heap.size w8) (.cells #[] 25)))
                   clear ho hb hg hat H6 HB6 HPC hab hAL hGA HK8)
                | ((with_reducible refine gate_builtin (b := .append) (xs := #[.tmp 82, .tmp 83]) rfl ?_); refine Kd.R_append_rows KH (w0 := w5) w5.heap.size rfl (.tmp 82) (.tmp 83) 22 25 (.slice none 0 0) 24 rfl Try.underlying22 Go.Proofs.Ytjolnjckgoilpaa.PRa.info25 rfl (by decide) (by omega) (.slice (some ⟨w8.heap.size, 0, none⟩) 0 0) [] hsA _ _ _ (fun _ => True) (fun _ => False) rfl rfl HEE.out HKa.out (fun _ _ h => h) (fun _ h => h.elim) (fun _ _ => trivial) HBa.out HBa.out.size (by have := HAL.out; simp; omega) ?_
                   intro v9 w9 ho hb hg hat
                   rw [List.nil_append] at ho
                   obtain ⟨lb, cL, ev, hab, _⟩ := Kd.R_form ho (by rw [HAL.out]; omega)
                   rw [HAL.out] at ev
                   subst ev
                   have HGA := Aside0.mk (ga_start (one := one) (two := two) (three := three) H8.out HAL.out HB8.out.size hg ho hat hb)
                   clear ho hb hg hat hab HEE HBa HKa H8 HB8))
              have HGZ := Aside0.mk (⟨hsA, allL a j m, HGA.out, HR5.out, GoneOf.start HKA.out OKa.out⟩ : Gz w5 (w9.alloc (.cells #[.int .i64 one, .int .i64 two, .int .i64 three] 3)) a j m ab cA lb cL w9.heap.size hsA (fun i => [one, two, three].getD i 0) [])
              clear HGA
              generalize (fun i => [one, two, three].getD i 0) = gs at HGZ
              generalize w9.heap.size = gb at HGZ ⊢
              go_loopw [16, 18] (fun nv iv W => ∃ (i c : Nat) (S : List Nat), i ≤ 3 ∧ c ≤ i ∧ nv = .int .i64 c ∧ iv = .int .i64 i ∧ Aside0 (S.length = c) ∧ Aside0 (Gz w5 W a j m ab cA lb cL gb hsA gs S)) (fun _ iv _ => 3 - (intOf iv).toNat)
              case atStart => exact ⟨0, 0, [], by omega, by omega, rfl, rfl, ⟨rfl⟩, HGZ⟩
              case round =>
                clear HGZ
                obtain ⟨i, c, S, hi, hci, rfl, rfl, HSc, HG⟩ := hrel
                by_cases hi3 : i < 3
                · have xg := HG.out.num hi3
                  obtain ⟨gv, hgv⟩ : ∃ gv, gs i = gv := ⟨_, rfl⟩
                  rw [hgv] at xg
                  have hii : decide ((i : Int) < 3) = true := decide_eq_true (by omega)
                  have hi0 : (0 : Int) ≤ (i : Int) := by omega
                  have hi1 : (i : Int) < 3 := by omega
                  clear hgv hi
                  by_cases b0 : 0 ≤ gv
                  · obtain ⟨t, rfl⟩ := Int.eq_ofNat_of_zero_le b0
                    clear b0
                    have b0 : decide ((0 : Int) ≤ (t : Int)) = true := decide_eq_true (by omega)
                    have b00 : (0 : Int) ≤ (t : Int) := by omega
                    by_cases b1 : t < j + 2
                    · have HT := Aside0.mk b1
                      have b2 : decide ((t : Int) < (j : Int) + 2) = true := decide_eq_true (by omega)
                      have b3 : (t : Int) < (j : Int) + 2 := by omega
                      obtain ⟨Ah, ch, xh⟩ := HG.out.head HKA.out HL.out b1
                      by_cases b4 : t ∈ S
                      · rw [if_pos b4] at xh
                        clear b1 b4
                        have hz : decide ((0 : Int) < ((0 : Nat) : Int)) = false := by decide
                        by_cases hc : c ≤ 2
                        · have HQ := HG
                          have hc2 : decide ((c : Int) ≤ 2) = true := decide_eq_true (by omega)
                          have hc3 : decide (2 < (c : Int)) = false := decide_eq_false (by omega)
                          have HF := Aside0.mk (HQ.out.few HC5.out h1 h2 HM1.out (by have := HM4.out; omega) HKA.out OKa.out HL.out (by rw [HSc.out]; omega))
                          go_wp2_with (first
                            | (go_at_call 12; refine Calls.mono HF.out ?_; rintro e wx ⟨ob, cap, rfl, hx, hcap, hb⟩; have HS := Aside0.mk (HQ.out.same HR5.out hb hx hcap h2); have HB12 := Aside0.mk hb; clear hx hcap hb HF)
                            | (go_at_call 13; refine Calls.mono HS.out ?_; rintro e wy ⟨rfl, hb⟩; have HBy := Aside0.mk (below_then HB12.out HB12.out.size hb); clear hb HS))
                          go_roundw
                          case measure => simp [intOf]; omega
                          case rel => exact ⟨i + 1, c, S, by omega, by omega, by go_num, by go_num, ⟨HSc.out⟩, ⟨HQ.out.move HBy.out⟩⟩
                        · have HQ := HG
                          have hc2 : decide ((c : Int) ≤ 2) = false := decide_eq_false (by omega)
                          have hc3 : decide (2 < (c : Int)) = true := decide_eq_true (by omega)
                          have HF := Aside0.mk (HQ.out.lost HC5.out h2 HM1.out HKA.out HL.out (by rw [HSc.out]; omega))
                          go_wp2_with (go_at_call 12; refine Calls.mono HF.out ?_; rintro e wx ⟨rfl, hb⟩; have HBy := Aside0.mk hb; clear hb HF)
                          go_roundw
                          case measure => simp [intOf]; omega
                          case rel => exact ⟨i + 1, c, S, by omega, by omega, by go_num, by go_num, ⟨HSc.out⟩, ⟨HQ.out.move HBy.out⟩⟩
                      · rw [if_neg b4] at xh
                        have HTS := Aside0.mk b4
                        have hz : decide ((0 : Int) < (m : Int)) = true := decide_eq_true (by have := HM1.out; omega)
                        have xf := HG.out.free t
                        clear b1 b4
                        by_cases hc : c + 1 ≤ 2
                        · have HQ := Aside0.mk (HG.out.put HT.out HTS.out)
                          have hc2 : decide ((c : Int) + 1 ≤ 2) = true := decide_eq_true (by omega)
                          have hc3 : decide (2 < (c : Int) + 1) = false := decide_eq_false (by omega)
                          have HF := Aside0.mk (HQ.out.few HC5.out h1 h2 HM1.out (by have := HM4.out; omega) HKA.out OKa.out HL.out (by rw [List.length_cons, HSc.out]; omega))
                          go_wp2_with (first
                            | (go_at_call 12; refine Calls.mono HF.out ?_; rintro e wx ⟨ob, cap, rfl, hx, hcap, hb⟩; have HS := Aside0.mk (HQ.out.same HR5.out hb hx hcap h2); have HB12 := Aside0.mk hb; clear hx hcap hb HF)
                            | (go_at_call 13; refine Calls.mono HS.out ?_; rintro e wy ⟨rfl, hb⟩; have HBy := Aside0.mk (below_then HB12.out HB12.out.size hb); clear hb HS))
                          go_roundw
                          case measure => simp [intOf]; omega
                          case rel => exact ⟨i + 1, c + 1, t :: S, by omega, by omega, by go_num, by go_num, ⟨by rw [List.length_cons, HSc.out]⟩, ⟨HQ.out.move HBy.out⟩⟩
                        · have HQ := Aside0.mk (HG.out.put HT.out HTS.out)
                          have hc2 : decide ((c : Int) + 1 ≤ 2) = false := decide_eq_false (by omega)
                          have hc3 : decide (2 < (c : Int) + 1) = true := decide_eq_true (by omega)
                          have HF := Aside0.mk (HQ.out.lost HC5.out h2 HM1.out HKA.out HL.out (by rw [List.length_cons, HSc.out]; omega))
                          go_wp2_with (go_at_call 12; refine Calls.mono HF.out ?_; rintro e wx ⟨rfl, hb⟩; have HBy := Aside0.mk hb; clear hb HF)
                          go_roundw
                          case measure => simp [intOf]; omega
                          case rel => exact ⟨i + 1, c + 1, t :: S, by omega, by omega, by go_num, by go_num, ⟨by rw [List.length_cons, HSc.out]⟩, ⟨HQ.out.move HBy.out⟩⟩
                    · have b2 : decide ((t : Int) < (j : Int) + 2) = false := decide_eq_false (by omega)
                      clear b1
                      by_cases hc : c ≤ 2
                      · have HQ := HG
                        have hc2 : decide ((c : Int) ≤ 2) = true := decide_eq_true (by omega)
                        have hc3 : decide (2 < (c : Int)) = false := decide_eq_false (by omega)
                        have HF := Aside0.mk (HQ.out.few HC5.out h1 h2 HM1.out (by have := HM4.out; omega) HKA.out OKa.out HL.out (by rw [HSc.out]; omega))
                        go_wp2_with (first
                          | (go_at_call 12; refine Calls.mono HF.out ?_; rintro e wx ⟨ob, cap, rfl, hx, hcap, hb⟩; have HS := Aside0.mk (HQ.out.same HR5.out hb hx hcap h2); have HB12 := Aside0.mk hb; clear hx hcap hb HF)
                          | (go_at_call 13; refine Calls.mono HS.out ?_; rintro e wy ⟨rfl, hb⟩; have HBy := Aside0.mk (below_then HB12.out HB12.out.size hb); clear hb HS))
                        go_roundw
                        case measure => simp [intOf]; omega
                        case rel => exact ⟨i + 1, c, S, by omega, by omega, by go_num, by go_num, ⟨HSc.out⟩, ⟨HQ.out.move HBy.out⟩⟩
                      · have HQ := HG
                        have hc2 : decide ((c : Int) ≤ 2) = false := decide_eq_false (by omega)
                        have hc3 : decide (2 < (c : Int)) = true := decide_eq_true (by omega)
                        have HF := Aside0.mk (HQ.out.lost HC5.out h2 HM1.out HKA.out HL.out (by rw [HSc.out]; omega))
                        go_wp2_with (go_at_call 12; refine Calls.mono HF.out ?_; rintro e wx ⟨rfl, hb⟩; have HBy := Aside0.mk hb; clear hb HF)
                        go_roundw
                        case measure => simp [intOf]; omega
                        case rel => exact ⟨i + 1, c, S, by omega, by omega, by go_num, by go_num, ⟨HSc.out⟩, ⟨HQ.out.move HBy.out⟩⟩
                  · have b2 : decide (0 ≤ gv) = false := decide_eq_false b0
                    clear b0
                    by_cases hc : c ≤ 2
                    · have HQ := HG
                      have hc2 : decide ((c : Int) ≤ 2) = true := decide_eq_true (by omega)
                      have hc3 : decide (2 < (c : Int)) = false := decide_eq_false (by omega)
                      have HF := Aside0.mk (HQ.out.few HC5.out h1 h2 HM1.out (by have := HM4.out; omega) HKA.out OKa.out HL.out (by rw [HSc.out]; omega))
                      go_wp2_with (first
                        | (go_at_call 12; refine Calls.mono HF.out ?_; rintro e wx ⟨ob, cap, rfl, hx, hcap, hb⟩; have HS := Aside0.mk (HQ.out.same HR5.out hb hx hcap h2); have HB12 := Aside0.mk hb; clear hx hcap hb HF)
                        | (go_at_call 13; refine Calls.mono HS.out ?_; rintro e wy ⟨rfl, hb⟩; have HBy := Aside0.mk (below_then HB12.out HB12.out.size hb); clear hb HS))
                      go_roundw
                      case measure => simp [intOf]; omega
                      case rel => exact ⟨i + 1, c, S, by omega, by omega, by go_num, by go_num, ⟨HSc.out⟩, ⟨HQ.out.move HBy.out⟩⟩
                    · have HQ := HG
                      have hc2 : decide ((c : Int) ≤ 2) = false := decide_eq_false (by omega)
                      have hc3 : decide (2 < (c : Int)) = true := decide_eq_true (by omega)
                      have HF := Aside0.mk (HQ.out.lost HC5.out h2 HM1.out HKA.out HL.out (by rw [HSc.out]; omega))
                      go_wp2_with (go_at_call 12; refine Calls.mono HF.out ?_; rintro e wx ⟨rfl, hb⟩; have HBy := Aside0.mk hb; clear hb HF)
                      go_roundw
                      case measure => simp [intOf]; omega
                      case rel => exact ⟨i + 1, c, S, by omega, by omega, by go_num, by go_num, ⟨HSc.out⟩, ⟨HQ.out.move HBy.out⟩⟩
                · obtain rfl : i = 3 := by omega
                  have HBe := Aside0.mk (below_then HB5.out HB5.out.size HG.out.below)
                  have hii : decide (((3 : Nat) : Int) < 3) = false := by decide
                  go_wp2_with fail
                  go_ret
                  exact ⟨rfl, HBe.out⟩
    · have d1 : decide ((k : Int) < 1) = false := decide_eq_false (by omega)
      have d2 : decide ((32 : Int) < (k : Int)) = true := decide_eq_true (by omega)
      go_wp2_with (first | (go_at_call 8; refine Calls.mono (HK.out _) ?_; rintro e w1 ⟨rfl, hb⟩; have HB := Aside0.mk hb; clear hb))
      go_ret
      exact ⟨rfl, HB.out⟩
  · have d1 : decide ((k : Int) < 1) = true := decide_eq_true (by omega)
    go_wp2_with (first | (go_at_call 8; refine Calls.mono (HK.out _) ?_; rintro e w1 ⟨rfl, hb⟩; have HB := Aside0.mk hb; clear hb))
    go_ret
    exact ⟨rfl, HB.out⟩
end Go.Proofs.Ytjolnjckgoilpaa.Rs
