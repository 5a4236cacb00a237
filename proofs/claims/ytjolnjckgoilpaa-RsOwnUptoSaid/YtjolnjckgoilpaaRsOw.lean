/-
  The law RsOwn: its walk.
-/
import Derived.Test.YtjolnjckgoilpaaMMin
set_option linter.unusedVariables false
set_option linter.unusedSimpArgs false
namespace Go.Proofs.Ytjolnjckgoilpaa.Rs
open Go.RowKit Go.Proofs.YtjolnjckgoilpaaW.PrintWords Go.Proofs.YtjolnjckgoilpaaW.PrintLast Go.Proofs.YtjolnjckgoilpaaW.PrintMore Go.Proofs.Ytjolnjckgoilpaa.PRa Go.Proofs.Ytjolnjckgoilpaa.Gf
theorem take_snoc' {l : List (List Int)} {q : Nat} (h : q < l.length) : l.take (q + 1) = l.take q ++ [row l q] := by
  rw [List.take_succ_eq_append_getElem h]
  simp [row, List.getD, h]
theorem grown_below' {W W1 : World} {o : Obj} (hg : (W.alloc o).grownBy W1 (some W.heap.size)) : Below W.heap.size W W1 :=
  ⟨hg.os, hg.tape, hg.output, by have := hg.size; rw [World.size_alloc] at this; omega, fun k hk => (hg.block k (by rw [World.size_alloc]; omega) (by intro e; injection e with e; omega)).trans (Below.heap_alloc W o k hk)⟩
theorem kh_put {W : World} {base n ab cap : Nat} {ok : Nat → Prop} {hs : List Hd} (h : KH.R 25 W base ok (.slice (some ⟨ab, 0, none⟩) n cap) hs) (hl : hs.length = n) (i : Nat) (x : Hd) : KH.R 25 (W.setCell ⟨ab, i, none⟩ (.slice x.1 x.2.1 x.2.2)) base ok (.slice (some ⟨ab, 0, none⟩) n cap) (hs.set i x) := by
  rw [← hl] at h
  have := (Kd.R_put h (i : Int) x).1
  rw [Int.toNat_natCast, hl] at this
  exact this
theorem KH_len {W : World} {base n ab cap : Nat} {ok : Nat → Prop} {hs : List Hd} (h : KH.R 25 W base ok (.slice (some ⟨ab, 0, none⟩) n cap) hs) (hl : hs.length = n) : KH.C W (some ⟨ab, 0, none⟩) n hs ∧ n ≤ cap := by
  rw [← hl] at h
  have := Kd.R_reads' h
  rw [hl] at this
  exact ⟨this.2.2, this.2.1⟩
def own5.T27 : Bool × List (List Nat × List Nat) := (true, [([], []), ([], []), ([0, 1], [0, 1]), ([2], [2]), ([], []), ([], []), ([], []), ([5, 6], [5, 6]), ([7], [7]), ([], []), ([8, 9], [8, 9]), ([10], [10]), ([11], [11]), ([3, 4, 0, 1, 2, 3, 4, 5, 6, 7, 8, 9, 10, 11, 12], [3, 4]), ([13, 12, 0, 1, 2, 3, 4, 5, 6, 7, 8, 9, 10, 11, 12], [12, 13])])
def own5.B27 : List Nat := [0, 0, 3, 7, 0, 0, 0, 96, 224, 0, 992, 2016, 4064, 8191, 16383]
theorem own5.tab27 : rtab .any (opsOf Try.f5 27) = own5.T27 := by kernel_rfl
theorem own5.bits27 : waitsOk own5.T27.2 own5.B27 = true := by kernel_rfl
set_option maxHeartbeats 32000000 in
set_option maxRecDepth 100000 in
theorem own5 (w : World) (A : Option Addr) (ca : Nat) (a : List (List Int)) (hA : KR.C w A a.length a) (hca : a.length ≤ ca)
    (oka : okB a = true) (la : a.length ≤ 100000000) (sa : (a.map List.length).sum ≤ 100000000) (gone : Int) :
    Calls Try.prog 5 #[.slice A a.length ca, .int .i64 gone] w fun e w' => e = .returned (.bool true) ∧ Below w.heap.size w w' := by
  have HK := Aside0.mk (fun (W : World) => known8 W)
  have HFa := Aside0.mk (fun (W : World) (hW : Below w.heap.size w W) => few9 W A ca a (Kd.C_below hA hW) hca la sa)
  have HA := Aside0.mk hA
  have OKa := Aside0.mk oka
  obtain ⟨k, hk⟩ : ∃ k, a.length = k := ⟨_, rfl⟩
  rw [hk] at HFa HA ⊢
  have HKA := Aside0.mk hk
  have HCA := Aside0.mk (show k ≤ ca by omega)
  clear hA hca oka la sa hk
  go_enter Try.func5, Try.ntmps5
  by_cases h1 : 1 ≤ k
  · by_cases h2 : k ≤ 32
    · have d1 : decide ((k : Int) < 1) = false := decide_eq_false (by omega)
      have d2 : decide ((32 : Int) < (k : Int)) = false := decide_eq_false (by omega)
      cases h4 : fewB a
      · rw [h4] at HFa
        go_wp2_with (first | (go_at_call 8; refine Calls.mono (HK.out _) ?_; rintro e w1 ⟨rfl, hb⟩; have HB := Aside0.mk hb; clear hb) | (go_at_call 9; refine Calls.mono (HFa.out _ HB.out) ?_; rintro e w2 ⟨rfl, hd⟩; replace HB := Aside0.mk (below_then HB.out HB.out.size hd.below); clear hd))
        go_ret
        exact ⟨rfl, HB.out⟩
      · rw [h4] at HFa
        have HF4 := Aside0.mk h4
        clear h4
        obtain ⟨ad, A0, c0, eA, hx0, hl0, hi0⟩ := rows_at HA.out (i := 0) (by omega)
        subst eA
        rw [show ad.add 0 = ad by simp [Addr.add]] at hx0
        have HM4 := Aside0.mk (few_row HF4.out 0)
        obtain ⟨m, hm⟩ : ∃ m, (row a 0).length = m := ⟨_, rfl⟩
        rw [hm] at hx0 HM4
        have HX0 := Aside0.mk hx0
        have HMm := Aside0.mk hm
        clear hx0 hl0 hi0 hm
        by_cases h6 : m = 0
        · subst h6
          go_wp2_with (first | (go_at_call 8; refine Calls.mono (HK.out _) ?_; rintro e w1 ⟨rfl, hb⟩; have HB := Aside0.mk hb; clear hb) | ((go_at_call 9; refine Calls.mono (HFa.out _ HB.out) ?_; rintro e w2 ⟨rfl, hd⟩; replace HB := Aside0.mk (below_then HB.out HB.out.size hd.below); clear hd); clear HFa; have x0 := pw_cell_below HB.out HX0.out))
          go_ret
          exact ⟨rfl, HB.out⟩
        · have d6 : ((m : Int) == 0) = false := by simp; omega
          have HM1 := Aside0.mk (show 0 < m by omega)
          have HN := Aside0.mk (fun (W : World) => (by refine (new10 W (k : Int)).mono ?_; rintro e w' ⟨hb, h⟩; rw [if_pos (by omega)] at h; obtain ⟨g, rfl, hg, hc⟩ := h; exact ⟨g, rfl, hc, hb⟩ : Calls Try.prog 10 #[.int .i64 k] W fun e w' => ∃ g, e = .returned (.tuple #[.pointer (some ⟨g, 0, none⟩), .int .i64 0]) ∧ CodeAt w' g k ∧ Below W.heap.size W w'))
          go_wp2_with (first | (go_at_call 8; refine Calls.mono (HK.out _) ?_; rintro e w1 ⟨rfl, hb⟩; have HB := Aside0.mk hb; clear hb) | ((go_at_call 9; refine Calls.mono (HFa.out _ HB.out) ?_; rintro e w2 ⟨rfl, hd⟩; replace HB := Aside0.mk (below_then HB.out HB.out.size hd.below); clear hd); clear HFa; have x0 := pw_cell_below HB.out HX0.out) | (go_at_call 10; refine Calls.mono (HN.out _) ?_; rintro e w4 ⟨gc, rfl, hc, hb⟩; have HC4 := Aside0.mk hc; have HB4 := Aside0.mk (below_then HB.out HB.out.size hb); clear hc hb HB HN))
          clear d1 d2 d6
          go_loopw [8, 9] (fun v i W => ∃ (q : Nat) (hs : List Hd), q ≤ k ∧ i = .int .i64 q ∧ Aside0 (KH.R 25 W w4.heap.size (fun _ => True) v hs) ∧ Aside0 (OwnM W w.heap.size hs (a.take q)) ∧ Aside0 (Below w4.heap.size w4 W)) (fun _ i _ => k - (intOf i).toNat)
          case atStart => exact ⟨0, [], Nat.zero_le _, rfl, ⟨Kd.R_nil _ _ _ _ _⟩, ⟨OwnM.nil _ _⟩, ⟨Below.refl _ _⟩⟩
          case round =>
            obtain ⟨q, hs, hq, rfl, HH, HY, HB⟩ := hrel
            have HBw := Aside0.mk (below_then HB4.out HB4.out.size HB.out)
            by_cases hqj : q < k
            · clear hq
              obtain ⟨ad', Aj, cj, eA, xa, la, ia⟩ := rows_at HA.out (i := q) hqj
              obtain rfl : ad = ad' := by injection eA
              obtain ⟨lj, hlj⟩ : ∃ lj, (row a q).length = lj := ⟨_, rfl⟩
              replace xa := pw_cell_below (below_alloc (Below.refl wr.heap.size wr) (.cells #[] 5)) (pw_cell_below HBw.out xa)
              rw [hlj] at xa ia
              have HLJ := Aside0.mk hlj
              have HL4 := Aside0.mk (show lj ≤ 4000 by have := few_row HF4.out q; omega)
              have IA := Aside0.mk ia
              have HS0 := Aside0.mk (rowAt_R (w := wr.alloc (.cells #[] 5)) (d := wr.heap.size) (c := 0) (base := w.heap.size) (f := fun _ => 0) (ok := fun _ => True) (heap_alloc_last _ _) HBw.out.size (by omega) trivial)
              have HBa := Aside0.mk (below_alloc HBw.out (.cells #[] 5))
              have HHL := Aside0.mk (show hs.length = q by rw [HY.out.len, List.length_take, HKA.out]; omega)
              have HTK := Aside0.mk (take_snoc' (l := a) (q := q) (by rw [HKA.out]; exact hqj))
              have HQK := Aside0.mk hqj
              have hqi : decide ((q : Int) < (k : Int)) = true := decide_eq_true (by omega)
              have hq0 : (0 : Int) ≤ (q : Int) := by omega
              have hq1 : (q : Int) < (k : Int) := by omega
              clear la eA ia hlj
              go_wp2_with (first
                | ((with_reducible refine gate_builtin (b := .append) (xs := #[.tmp 52, .tmp 56]) rfl ?_); refine Kd.R_append_rows KB (w0 := w) w.heap.size rfl (.tmp 52) (.tmp 56) 25 5 (.int .u8 0) 1 rfl Try.underlying25 Go.Proofs.Ytjolnjckgoilpaa.PRa.info5 rfl (by decide) (by omega) (.slice (some ⟨wr.heap.size, 0, none⟩) 0 0) [] (row a q) _ _ _ (fun _ => True) (fun _ => False) rfl rfl HS0.out (Kd.C_below IA.out HBa.out) (fun _ _ h => h) (fun _ h => h.elim) (fun _ _ => trivial) HBa.out HBa.out.size (by have := HL4.out; simp; omega) ?_
                   intro v1 w6 ho hb hg hat
                   rw [List.nil_append] at ho
                   obtain ⟨A1, c1, ev, hle, _⟩ := Kd.R_reads ho
                   subst ev
                   have hgB : (wr.alloc (.cells #[] 5)).grownBy w6 (some wr.heap.size) := hg
                   have HLE := Aside0.mk hle
                   have HR6 := Aside0.mk ho
                   have HH6 := Aside0.mk (Kd.R_grown (ok := fun k => True ∧ k ≠ wr.heap.size) (Kd.R_alloc (Kd.R_elderB HH.out wr.heap.size (Nat.le_refl _)) (.cells #[] 5)) hgB (fun k hk e => hk.2 (by injection e)))
                   have HY6 := Aside0.mk (HY.out.grown hgB)
                   have HB56 := Aside0.mk (below_then HB.out HB.out.size (grown_below' hgB))
                   clear ho hb hg hat hle hgB HS0 HBa HH HY HB)
                | ((with_reducible refine gate_builtin (b := .append) (xs := #[.tmp 51, .tmp 58]) rfl ?_); refine Kd.R_append KH (w0 := w4) w4.heap.size rfl (.tmp 51) (.tmp 58) 22 25 (.slice none 0 0) 24 rfl Try.underlying22 Go.Proofs.Ytjolnjckgoilpaa.PRa.info25 rfl (by decide) (by omega) u8 hs (A1, (row a q).length, c1) [.slice A1 (row a q).length c1] (fun _ => True) (fun _ => False) rfl rfl rfl (fun _ hk => hk.elim) (fun _ _ => trivial) (Kd.R_mono HH6.out (fun _ _ => trivial)) HB56.out HB56.out.size (by rw [HHL.out]; omega) ?_
                   intro v2 w7 ho hb hg hat
                   have HY7 := Aside0.mk ((HY6.out.snoc HLE.out HR6.out).over HH6.out hg)
                   have HB57 := Aside0.mk hb
                   have HH7 := Aside0.mk ho
                   clear ho hb hg hat HH6 HY6 HB56))
              go_roundw
              case measure => simp [intOf]; have := HQK.out; omega
              case rel => exact ⟨q + 1, _, HQK.out, by go_num, HH7, by rw [HTK.out]; exact HY7, HB57⟩
            · obtain rfl : q = k := by omega
              have hqi : decide ((q : Int) < (q : Int)) = false := decide_eq_false (by omega)
              have hta : a.take q = a := List.take_of_length_le (by rw [HKA.out]; exact Nat.le_refl _)
              have HYa := Aside0.mk (by have := HY.out; rwa [hta] at this : OwnM wr w.heap.size hs a)
              have HHL := Aside0.mk (show hs.length = q by rw [HYa.out.len, HKA.out])
              obtain ⟨A8, c8, e8, hle8, hC8⟩ := Kd.R_reads HH.out
              rw [HHL.out] at e8 hC8 hle8
              subst e8
              have HCr := Aside0.mk (HC4.out.below HB.out)
              have HMI := Aside0.mk (KR_of_KH hC8 HYa.out.toRows)
              have HC8 := Aside0.mk hC8
              have HL8 := Aside0.mk hle8
              clear hta hC8 hle8 HY
              by_cases hgd : ∀ i, i < q → (row a i).length = m
              · have HGD := Aside0.mk hgd
                have HP := Aside0.mk (parity11_ok wr gc q HCr.out h1 h2 A8 c8 a HMI.out HKA.out HL8.out m (by have := HM4.out; omega) OKa.out hgd (sizes_rows (by rw [HKA.out]; exact hgd)) (miss_rows HM1.out (by rw [HKA.out]; exact hgd)))
                clear hgd
                have HOA := Aside0.mk (allL_ok (k := q) (m := m) OKa.out)
                have HLA := Aside0.mk (allL_len (a := a) (m := m) HKA.out)
                have HLN := Aside0.mk (allL_lens (m := m) HKA.out HGD.out)
                by_cases hg0 : 0 ≤ gone
                · obtain ⟨gi, rfl⟩ := Int.eq_ofNat_of_zero_le hg0
                  clear hg0
                  have hg0 : (0 : Int) ≤ (gi : Int) := by omega
                  by_cases hgq : gi < q + 2
                  · have hg1 : (gi : Int) < (q : Int) + 2 := by omega
                    have HGQ := Aside0.mk hgq
                    clear hgq
                    go_wp2_with (first
                      | (go_at_call 11; refine Calls.mono HP.out ?_; rintro e w5 ⟨pb, p0, p1, rfl, hp⟩; have HP5 := Aside0.mk hp; have HB5 := Aside0.mk (below_then HBw.out HBw.out.size hp.below); have HC5 := Aside0.mk (HCr.out.below hp.below); have HR5 := Aside0.mk (rows_all (HYa.out.toRows.below hp.below) hp (by have := HM4.out; omega)); have HM5 := Aside0.mk (Kd.C_below HMI.out hp.below); have HC85 := Aside0.mk (Kd.C_below HC8.out hp.below); have HPC := Aside0.mk (KH_pair' hp.top); have HE5 := Aside0.mk (KH_empty w5 (Nat.le_refl w5.heap.size)); have HBe := Aside0.mk (below_alloc (Below.refl w5.heap.size w5) (.cells #[] 25)); clear hp HP HCr)
                      | ((with_reducible refine gate_builtin (b := .append) (xs := #[.tmp 68, .tmp 69]) rfl ?_); refine Kd.R_append_rows KH (w0 := w5) w5.heap.size rfl (.tmp 68) (.tmp 69) 22 25 (.slice none 0 0) 24 rfl Try.underlying22 Go.Proofs.Ytjolnjckgoilpaa.PRa.info25 rfl (by decide) (by omega) (.slice (some ⟨w5.heap.size, 0, none⟩) 0 0) [] hs _ _ _ (fun _ => True) (fun _ => False) rfl rfl HE5.out (Kd.C_below HC85.out HBe.out) (fun _ _ h => h) (fun _ h => h.elim) (fun _ _ => trivial) HBe.out HBe.out.size (by simp; omega) ?_
                         intro v6 w6 ho hb hg hat
                         rw [List.nil_append] at ho
                         have H6 := Aside0.mk ho
                         have HB6 := Aside0.mk hb
                         clear ho hb hg hat HE5 HBe)
                      | ((with_reducible refine gate_builtin (b := .append) (xs := #[.tmp 70, .tmp 71]) rfl ?_); refine Kd.R_append_rows KH (w0 := w5) w5.heap.size rfl (.tmp 70) (.tmp 71) 22 25 (.slice none 0 0) 24 rfl Try.underlying22 Go.Proofs.Ytjolnjckgoilpaa.PRa.info25 rfl (by decide) (by omega) v6 hs [(some ⟨p0, 0, none⟩, m, m), (some ⟨p1, 0, none⟩, m, m)] _ _ _ (fun _ => True) (fun _ => False) rfl rfl H6.out (Kd.C_below HPC.out HB6.out) (fun _ _ h => h) (fun _ h => h.elim) (fun _ _ => trivial) HB6.out HB6.out.size (by rw [HHL.out]; omega) ?_
                         intro v8 w8 ho hb hg hat
                         have H8 := Aside0.mk ho
                         have HB8 := Aside0.mk hb
                         obtain ⟨ab, cap, ev, hab, _⟩ := Kd.R_form ho (by simp)
                         rw [List.length_append, HHL.out] at ev
                         subst ev
                         have HAB := Aside0.mk hab
                         clear ho hb hg hat H6 HB6 HPC hab
                         have hAL : (hs ++ [(some ⟨p0, 0, none⟩, m, m), (some ⟨p1, 0, none⟩, m, m)] : List Hd).length = q + 2 := by rw [List.length_append, HHL.out]; rfl
                         have HK8 := Aside0.mk (KH_len H8.out hAL).1
                         have HCP := Aside0.mk (KH_len H8.out hAL).2
                         have HGE := Aside0.mk (Kd.R_base H8.out ab rfl)
                         have HAL := Aside0.mk hAL
                         clear hAL
                         have HB59 := Aside0.mk (below_set HB8.out HGE.out : Below w5.heap.size w5 (w8.setCell ⟨ab, gi, none⟩ (.slice none 0 0)))
                         obtain ⟨L, _, hRB⟩ := rebuild_few (w8.setCell ⟨ab, gi, none⟩ (.slice none 0 0)) gc q (HC5.out.below HB59.out) h1 h2 (some ⟨ab, 0, none⟩) cap (goneL (allL a q m) gi) (q + 2) (KR_of_KH (KH_len (kh_put H8.out HAL.out gi (none, 0, 0)) (by rw [List.length_set]; exact HAL.out)).1 ((HR5.out.below HB59.out).gone gi)) rfl HCP.out m HM1.out (by have := HM4.out; omega) (goneL_ok HOA.out) (fun i hi => by rw [goneL_row (by rw [HLA.out]; exact HGQ.out)]; split; exact .inl rfl; exact .inr (HLN.out i hi)) (Nat.le_trans (miss_le (S := [gi]) (by unfold goneL; rw [List.length_set, HLA.out]) (fun i hi hp => by by_cases e : i = gi; simp [e]; exact absurd (by unfold pres; rw [goneL_row (by rw [HLA.out]; exact HGQ.out), if_neg e, HLN.out i hi]; have := HM1.out; omega) hp)) (show 1 ≤ 2 by decide))
                         have HRB := Aside0.mk (hRB.mono fun e w' h => h.old HB59.out)
                         obtain ⟨x, hx⟩ : ∃ x, (hs ++ [(some ⟨p0, 0, none⟩, m, m), (some ⟨p1, 0, none⟩, m, m)] : List Hd)[gi]? = some x := ⟨_, List.getElem?_eq_getElem (by rw [HAL.out]; exact HGQ.out)⟩
                         have xg := KH_atA HK8.out HGQ.out hx
                         rw [Addr.add_mid, Nat.zero_add] at xg
                         obtain ⟨xA, xn, xc⟩ := x
                         obtain ⟨cl8, hcl8⟩ := Kd.R_typed H8.out ab rfl
                         have xf : w8.frozen? ⟨ab, gi, none⟩ = false := frozen_blk hcl8
                         dsimp only at xg
                         clear hRB hx hcl8)
                      | (go_at_call 12; refine Calls.mono HRB.out ?_; rintro e wx hx; obtain ⟨ob, cx, hsx, rfl, hy⟩ := hx.ow; have HX := Aside0.mk hy; clear hy hx HRB))
                    go_loopw [15, 16] (fun v jv W => ∃ (t : Nat), t ≤ q + 2 ∧ v = .int .i64 t ∧ Aside0 (Ow w5 W (q + 2) m ob cx hsx)) (fun v _ _ => q + 2 - (intOf v).toNat)
                    case atStart => exact ⟨0, Nat.zero_le _, rfl, HX⟩
                    case round =>
                      clear HX
                      obtain ⟨t, ht, rfl, HX⟩ := hrel
                      by_cases htq : t < q + 2
                      · obtain ⟨b, cb, xa⟩ := HX.out.head htq
                        have HTQ := Aside0.mk htq
                        have hti : decide ((t : Int) < (q : Int) + 2) = true := decide_eq_true (by omega)
                        have ht0 : (0 : Int) ≤ (t : Int) := by omega
                        have ht1 : (t : Int) < (q : Int) + 2 := by omega
                        clear ht
                        go_wp2_with fail
                        go_loopw [16] (fun jv W => ∃ (u : Nat), u ≤ m ∧ jv = .int .i64 u ∧ Aside0 (Ow w5 W (q + 2) m ob cx hsx)) (fun jv _ => m - (intOf jv).toNat)
                        case atStart => exact ⟨0, Nat.zero_le _, rfl, HX⟩
                        case round =>
                          clear HX xa
                          obtain ⟨u, hu, rfl, HX⟩ := hrel
                          by_cases hum : u < m
                          · obtain ⟨b, cb, yv, xa, xv, xf, hset⟩ := HX.out.cell HTQ.out hum
                            have HS := Aside0.mk hset
                            have HUM := Aside0.mk hum
                            have hui : decide ((u : Int) < (m : Int)) = true := decide_eq_true (by omega)
                            have hu0 : (0 : Int) ≤ (u : Int) := by omega
                            have hu1 : (u : Int) < (m : Int) := by omega
                            have hu9 : (m : Int) ≤ 4000 := by have := HM4.out; omega
                            clear hu hset HX
                            go_wp2_with fail
                            refine start_ (n := 15) (S := fun w' => w'.cell? ⟨ob, t, none⟩ = some (.slice (some ⟨b, 0, none⟩) m cb) ∧ w'.cell? ⟨b, u, none⟩ = some (.int .u8 yv)) (ds := [14]) #[false, false, false, false, false, false, false, false, false, false, false, false, false, false, false] (by kernel_rfl) rfl rfl ⟨xa, xv⟩ (fun hHeld => ?_)
                            refine with_tabW own5.tab27 own5.bits27 (fun HT_ HW_ => ?_)
                            refine pure_ (i := 0) (N := some 105) (v := ?_) (a' := ?_) #[true, false, false, false, false, false, false, false, false, false, false, false, false, false, false] rfl rfl (any_of HT_.out (by kernel_rfl)) (fun _ _ _ h => h) (Or.inl ⟨by rfl, ?_⟩) ?_ ?_
                            rotate_left
                            · intro w'
                              go_simp
                              with_reducible rfl
                            rotate_left
                            · simp only [Act.put, List.setIfInBounds_toArray, List.set_cons_zero, List.set_cons_succ, i64_w, i32_w]
                              rfl
                            refine pure_ (i := 1) (N := some 106) (v := ?_) (a' := ?_) #[true, true, false, false, false, false, false, false, false, false, false, false, false, false, false] rfl rfl (any_of HT_.out (by kernel_rfl)) (fun _ _ _ h => h) (Or.inl ⟨by rfl, ?_⟩) ?_ ?_
                            rotate_left
                            · intro w'
                              go_simp
                              with_reducible rfl
                            rotate_left
                            · simp only [Act.put, List.setIfInBounds_toArray, List.set_cons_zero, List.set_cons_succ, i64_w, i32_w]
                              rfl
                            refine pure_ (i := 2) (N := some 107) (v := ?_) (a' := ?_) #[true, true, true, false, false, false, false, false, false, false, false, false, false, false, false] rfl rfl (any_of HT_.out (by kernel_rfl)) (fun _ _ _ h => h) (Or.inl ⟨by rfl, ?_⟩) ?_ ?_
                            rotate_left
                            · intro w'
                              go_simp
                              with_reducible rfl
                            rotate_left
                            · simp only [Act.put, List.setIfInBounds_toArray, List.set_cons_zero, List.set_cons_succ, i64_w, i32_w]
                              rfl
                            refine pure_ (i := 4) (N := some 109) (v := ?_) (a' := ?_) #[true, true, true, false, true, false, false, false, false, false, false, false, false, false, false] rfl rfl (any_of HT_.out (by kernel_rfl)) (fun _ _ _ h => h) (Or.inl ⟨by rfl, ?_⟩) ?_ ?_
                            rotate_left
                            · intro w'
                              go_simp
                              with_reducible rfl
                            rotate_left
                            · simp only [Act.put, List.setIfInBounds_toArray, List.set_cons_zero, List.set_cons_succ, i64_w, i32_w]
                              rfl
                            refine pure_ (i := 5) (N := some 110) (v := ?_) (a' := ?_) #[true, true, true, false, true, true, false, false, false, false, false, false, false, false, false] rfl rfl (any_of HT_.out (by kernel_rfl)) (fun _ _ _ h => h) (Or.inl ⟨by rfl, ?_⟩) ?_ ?_
                            rotate_left
                            · intro w'
                              go_simp
                              with_reducible rfl
                            rotate_left
                            · simp only [Act.put, List.setIfInBounds_toArray, List.set_cons_zero, List.set_cons_succ, i64_w, i32_w]
                              rfl
                            refine pure_ (i := 6) (N := some 111) (v := ?_) (a' := ?_) #[true, true, true, false, true, true, true, false, false, false, false, false, false, false, false] rfl rfl (any_of HT_.out (by kernel_rfl)) (fun _ _ _ h => h) (Or.inl ⟨by rfl, ?_⟩) ?_ ?_
                            rotate_left
                            · intro w'
                              go_simp
                              with_reducible rfl
                            rotate_left
                            · simp only [Act.put, List.setIfInBounds_toArray, List.set_cons_zero, List.set_cons_succ, i64_w, i32_w]
                              rfl
                            refine pure_ (i := 7) (N := some 112) (v := ?_) (a' := ?_) #[true, true, true, false, true, true, true, true, false, false, false, false, false, false, false] rfl rfl (any_of HT_.out (by kernel_rfl)) (fun _ _ _ h => h) (Or.inl ⟨by rfl, ?_⟩) ?_ ?_
                            rotate_left
                            · intro w'
                              go_simp
                              with_reducible rfl
                            rotate_left
                            · simp only [Act.put, List.setIfInBounds_toArray, List.set_cons_zero, List.set_cons_succ, i64_w, i32_w]
                              rfl
                            refine pure_ (i := 9) (N := some 114) (v := ?_) (a' := ?_) #[true, true, true, false, true, true, true, true, false, true, false, false, false, false, false] rfl rfl (any_of HT_.out (by kernel_rfl)) (fun _ _ _ h => h) (Or.inl ⟨by rfl, ?_⟩) ?_ ?_
                            rotate_left
                            · intro w'
                              go_simp
                              with_reducible rfl
                            rotate_left
                            · simp only [Act.put, List.setIfInBounds_toArray, List.set_cons_zero, List.set_cons_succ, i64_w, i32_w]
                              rfl
                            refine take_ (i := 3) (N := some 108) (v := ?_) (a' := ?_) #[true, true, true, true, true, true, true, true, false, true, false, false, false, false, false] rfl rfl (take_ofW HT_.out HW_.out (by kernel_rfl)) (fun _ _ _ h => h) (Or.inl ⟨by rfl, ?_⟩) hHeld ?_ ?_
                            rotate_left
                            · rintro w' ⟨s0, s1⟩
                              go_simp
                              with_reducible rfl
                            rotate_left
                            · simp only [Act.put, List.setIfInBounds_toArray, List.set_cons_zero, List.set_cons_succ, i64_w, i32_w]
                              rfl
                            refine take_ (i := 8) (N := some 113) (v := ?_) (a' := ?_) #[true, true, true, true, true, true, true, true, true, true, false, false, false, false, false] rfl rfl (take_ofW HT_.out HW_.out (by kernel_rfl)) (fun _ _ _ h => h) (Or.inl ⟨by rfl, ?_⟩) hHeld ?_ ?_
                            rotate_left
                            · rintro w' ⟨s0, s1⟩
                              go_simp
                              with_reducible rfl
                            rotate_left
                            · simp only [Act.put, List.setIfInBounds_toArray, List.set_cons_zero, List.set_cons_succ, i64_w, i32_w]
                              rfl
                            refine pure_ (i := 10) (N := some 115) (v := ?_) (a' := ?_) #[true, true, true, true, true, true, true, true, true, true, true, false, false, false, false] rfl rfl (any_of HT_.out (by kernel_rfl)) (fun _ _ _ h => h) (Or.inl ⟨by rfl, ?_⟩) ?_ ?_
                            rotate_left
                            · intro w'
                              go_simp
                              with_reducible rfl
                            rotate_left
                            · simp only [Act.put, List.setIfInBounds_toArray, List.set_cons_zero, List.set_cons_succ, i64_w, i32_w]
                              rfl
                            refine take_ (i := 11) (N := some 116) (v := ?_) (a' := ?_) #[true, true, true, true, true, true, true, true, true, true, true, true, false, false, false] rfl rfl (take_ofW HT_.out HW_.out (by kernel_rfl)) (fun _ _ _ h => h) (Or.inl ⟨by rfl, ?_⟩) hHeld ?_ ?_
                            rotate_left
                            · rintro w' ⟨s0, s1⟩
                              go_simp
                              with_reducible rfl
                            rotate_left
                            · simp only [Act.put, List.setIfInBounds_toArray, List.set_cons_zero, List.set_cons_succ, i64_w, i32_w]
                              rfl
                            refine pure_ (i := 12) (N := some 117) (v := ?_) (a' := ?_) #[true, true, true, true, true, true, true, true, true, true, true, true, true, false, false] rfl rfl (any_of HT_.out (by kernel_rfl)) (fun _ _ _ h => h) (Or.inl ⟨by rfl, ?_⟩) ?_ ?_
                            rotate_left
                            · intro w'
                              go_simp
                              with_reducible rfl
                            rotate_left
                            · simp only [Act.put, List.setIfInBounds_toArray, List.set_cons_zero, List.set_cons_succ, i64_w, i32_w]
                              rfl
                            refine pure_ (i := 13) (N := some 118) (v := ?_) (a' := ?_) #[true, true, true, true, true, true, true, true, true, true, true, true, true, true, false] rfl rfl (any_of HT_.out (by kernel_rfl)) (fun _ _ _ h => h) (Or.inl ⟨by rfl, ?_⟩) ?_ ?_
                            rotate_left
                            · intro w'
                              go_simp
                              with_reducible rfl
                            rotate_left
                            · simp only [Act.put, List.setIfInBounds_toArray, List.set_cons_zero, List.set_cons_succ, i64_w, i32_w]
                              rfl
                            refine last_ (i := 14) (N := none) #[true, true, true, true, true, true, true, true, true, true, true, true, true, true, true] rfl rfl (one_of HT_.out (by kernel_rfl)) (by decide) (fun K hK => ?_)
                            refine skip_ (w1 := ?_) (by rfl) rfl ?_ ?_
                            rotate_left
                            · go_simp
                              rfl
                            refine hK.out _ _ ?_
                            clear hK K
                            refine done_ (done_of HT_.out (by kernel_rfl)) ?_
                            go_wp2_with fail
                            go_roundw
                            case measure => simp [intOf]; have := HUM.out; have := HM4.out; omega
                            case rel => exact ⟨u + 1, HUM.out, by have := HUM.out; have := HM4.out; go_num, ⟨(HS.out _).drew⟩⟩
                          · obtain rfl : u = m := by omega
                            have hui : decide ((u : Int) < (u : Int)) = false := decide_eq_false (by omega)
                            obtain ⟨b, cb, xa⟩ := HX.out.head HTQ.out
                            go_wp2_with fail
                            go_roundw
                            case measure => simp [intOf]; have := HTQ.out; omega
                            case rel => exact ⟨t + 1, HTQ.out, by go_num, HX⟩
                      · obtain rfl : t = q + 2 := by omega
                        have hti : decide ((q : Int) + 2 < (q : Int) + 2) = false := decide_eq_false (by omega)
                        obtain ⟨_, _, _, hBx⟩ := HX.out
                        have HBX := Aside0.mk (below_then HB5.out HB5.out.size hBx)
                        have HSM := Aside0.mk (by have := same13 wr q A8 (some ad) c8 ca a (Kd.C_below HM5.out hBx) (Kd.C_below HA.out HBX.out) HL8.out HCA.out (by omega); exact this : Calls Try.prog 13 #[.slice A8 q c8, .slice (some ad) q ca] wr fun e w' => e = .returned (.bool true) ∧ Below wr.heap.size wr w')
                        clear hBx
                        go_wp2_with (first | (go_at_call 13; refine Calls.mono HSM.out ?_; rintro e wy ⟨rfl, hb9⟩; have HBY := Aside0.mk (below_then HBX.out HBX.out.size hb9); clear hb9))
                        go_ret
                        exact ⟨rfl, HBY.out⟩
                  · have hg1 : ¬ (gi : Int) < (q : Int) + 2 := by omega
                    go_wp2_with (first
                      | (go_at_call 11; refine Calls.mono HP.out ?_; rintro e w5 ⟨pb, p0, p1, rfl, hp⟩; have HP5 := Aside0.mk hp; have HB5 := Aside0.mk (below_then HBw.out HBw.out.size hp.below); have HC5 := Aside0.mk (HCr.out.below hp.below); have HR5 := Aside0.mk (rows_all (HYa.out.toRows.below hp.below) hp (by have := HM4.out; omega)); have HM5 := Aside0.mk (Kd.C_below HMI.out hp.below); have HC85 := Aside0.mk (Kd.C_below HC8.out hp.below); have HPC := Aside0.mk (KH_pair' hp.top); have HE5 := Aside0.mk (KH_empty w5 (Nat.le_refl w5.heap.size)); have HBe := Aside0.mk (below_alloc (Below.refl w5.heap.size w5) (.cells #[] 25)); clear hp HP HCr)
                      | ((with_reducible refine gate_builtin (b := .append) (xs := #[.tmp 68, .tmp 69]) rfl ?_); refine Kd.R_append_rows KH (w0 := w5) w5.heap.size rfl (.tmp 68) (.tmp 69) 22 25 (.slice none 0 0) 24 rfl Try.underlying22 Go.Proofs.Ytjolnjckgoilpaa.PRa.info25 rfl (by decide) (by omega) (.slice (some ⟨w5.heap.size, 0, none⟩) 0 0) [] hs _ _ _ (fun _ => True) (fun _ => False) rfl rfl HE5.out (Kd.C_below HC85.out HBe.out) (fun _ _ h => h) (fun _ h => h.elim) (fun _ _ => trivial) HBe.out HBe.out.size (by simp; omega) ?_
                         intro v6 w6 ho hb hg hat
                         rw [List.nil_append] at ho
                         have H6 := Aside0.mk ho
                         have HB6 := Aside0.mk hb
                         clear ho hb hg hat HE5 HBe)
                      | ((with_reducible refine gate_builtin (b := .append) (xs := #[.tmp 70, .tmp 71]) rfl ?_); refine Kd.R_append_rows KH (w0 := w5) w5.heap.size rfl (.tmp 70) (.tmp 71) 22 25 (.slice none 0 0) 24 rfl Try.underlying22 Go.Proofs.Ytjolnjckgoilpaa.PRa.info25 rfl (by decide) (by omega) v6 hs [(some ⟨p0, 0, none⟩, m, m), (some ⟨p1, 0, none⟩, m, m)] _ _ _ (fun _ => True) (fun _ => False) rfl rfl H6.out (Kd.C_below HPC.out HB6.out) (fun _ _ h => h) (fun _ h => h.elim) (fun _ _ => trivial) HB6.out HB6.out.size (by rw [HHL.out]; omega) ?_
                         intro v8 w8 ho hb hg hat
                         have H8 := Aside0.mk ho
                         have HB8 := Aside0.mk hb
                         obtain ⟨ab, cap, ev, hab, _⟩ := Kd.R_form ho (by simp)
                         rw [List.length_append, HHL.out] at ev
                         subst ev
                         have HAB := Aside0.mk hab
                         clear ho hb hg hat H6 HB6 HPC hab
                         have hAL : (hs ++ [(some ⟨p0, 0, none⟩, m, m), (some ⟨p1, 0, none⟩, m, m)] : List Hd).length = q + 2 := by rw [List.length_append, HHL.out]; rfl
                         have HK8 := Aside0.mk (KH_len H8.out hAL).1
                         have HCP := Aside0.mk (KH_len H8.out hAL).2
                         have HGE := Aside0.mk (Kd.R_base H8.out ab rfl)
                         have HAL := Aside0.mk hAL
                         clear hAL
                         obtain ⟨L, _, hRB⟩ := rebuild_few w8 gc q (HC5.out.below HB8.out) h1 h2 (some ⟨ab, 0, none⟩) cap (allL a q m) (q + 2) (KR_of_KH HK8.out (HR5.out.below HB8.out)) rfl HCP.out m HM1.out (by have := HM4.out; omega) HOA.out (fun i hi => .inr (HLN.out i hi)) (by rw [miss_rows HM1.out (by rw [HLA.out]; exact HLN.out)]; exact Nat.zero_le _)
                         have HRB := Aside0.mk (hRB.mono fun e w' h => h.old HB8.out)
                         clear hRB)
                      | (go_at_call 12; refine Calls.mono HRB.out ?_; rintro e wx hx; obtain ⟨ob, cx, hsx, rfl, hy⟩ := hx.ow; have HX := Aside0.mk hy; clear hy hx HRB))
                    go_loopw [15, 16] (fun v jv W => ∃ (t : Nat), t ≤ q + 2 ∧ v = .int .i64 t ∧ Aside0 (Ow w5 W (q + 2) m ob cx hsx)) (fun v _ _ => q + 2 - (intOf v).toNat)
                    case atStart => exact ⟨0, Nat.zero_le _, rfl, HX⟩
                    case round =>
                      clear HX
                      obtain ⟨t, ht, rfl, HX⟩ := hrel
                      by_cases htq : t < q + 2
                      · obtain ⟨b, cb, xa⟩ := HX.out.head htq
                        have HTQ := Aside0.mk htq
                        have hti : decide ((t : Int) < (q : Int) + 2) = true := decide_eq_true (by omega)
                        have ht0 : (0 : Int) ≤ (t : Int) := by omega
                        have ht1 : (t : Int) < (q : Int) + 2 := by omega
                        clear ht
                        go_wp2_with fail
                        go_loopw [16] (fun jv W => ∃ (u : Nat), u ≤ m ∧ jv = .int .i64 u ∧ Aside0 (Ow w5 W (q + 2) m ob cx hsx)) (fun jv _ => m - (intOf jv).toNat)
                        case atStart => exact ⟨0, Nat.zero_le _, rfl, HX⟩
                        case round =>
                          clear HX xa
                          obtain ⟨u, hu, rfl, HX⟩ := hrel
                          by_cases hum : u < m
                          · obtain ⟨b, cb, yv, xa, xv, xf, hset⟩ := HX.out.cell HTQ.out hum
                            have HS := Aside0.mk hset
                            have HUM := Aside0.mk hum
                            have hui : decide ((u : Int) < (m : Int)) = true := decide_eq_true (by omega)
                            have hu0 : (0 : Int) ≤ (u : Int) := by omega
                            have hu1 : (u : Int) < (m : Int) := by omega
                            have hu9 : (m : Int) ≤ 4000 := by have := HM4.out; omega
                            clear hu hset HX
                            go_wp2_with fail
                            refine start_ (n := 15) (S := fun w' => w'.cell? ⟨ob, t, none⟩ = some (.slice (some ⟨b, 0, none⟩) m cb) ∧ w'.cell? ⟨b, u, none⟩ = some (.int .u8 yv)) (ds := [14]) #[false, false, false, false, false, false, false, false, false, false, false, false, false, false, false] (by kernel_rfl) rfl rfl ⟨xa, xv⟩ (fun hHeld => ?_)
                            refine with_tabW own5.tab27 own5.bits27 (fun HT_ HW_ => ?_)
                            refine pure_ (i := 0) (N := some 105) (v := ?_) (a' := ?_) #[true, false, false, false, false, false, false, false, false, false, false, false, false, false, false] rfl rfl (any_of HT_.out (by kernel_rfl)) (fun _ _ _ h => h) (Or.inl ⟨by rfl, ?_⟩) ?_ ?_
                            rotate_left
                            · intro w'
                              go_simp
                              with_reducible rfl
                            rotate_left
                            · simp only [Act.put, List.setIfInBounds_toArray, List.set_cons_zero, List.set_cons_succ, i64_w, i32_w]
                              rfl
                            refine pure_ (i := 1) (N := some 106) (v := ?_) (a' := ?_) #[true, true, false, false, false, false, false, false, false, false, false, false, false, false, false] rfl rfl (any_of HT_.out (by kernel_rfl)) (fun _ _ _ h => h) (Or.inl ⟨by rfl, ?_⟩) ?_ ?_
                            rotate_left
                            · intro w'
                              go_simp
                              with_reducible rfl
                            rotate_left
                            · simp only [Act.put, List.setIfInBounds_toArray, List.set_cons_zero, List.set_cons_succ, i64_w, i32_w]
                              rfl
                            refine pure_ (i := 2) (N := some 107) (v := ?_) (a' := ?_) #[true, true, true, false, false, false, false, false, false, false, false, false, false, false, false] rfl rfl (any_of HT_.out (by kernel_rfl)) (fun _ _ _ h => h) (Or.inl ⟨by rfl, ?_⟩) ?_ ?_
                            rotate_left
                            · intro w'
                              go_simp
                              with_reducible rfl
                            rotate_left
                            · simp only [Act.put, List.setIfInBounds_toArray, List.set_cons_zero, List.set_cons_succ, i64_w, i32_w]
                              rfl
                            refine pure_ (i := 4) (N := some 109) (v := ?_) (a' := ?_) #[true, true, true, false, true, false, false, false, false, false, false, false, false, false, false] rfl rfl (any_of HT_.out (by kernel_rfl)) (fun _ _ _ h => h) (Or.inl ⟨by rfl, ?_⟩) ?_ ?_
                            rotate_left
                            · intro w'
                              go_simp
                              with_reducible rfl
                            rotate_left
                            · simp only [Act.put, List.setIfInBounds_toArray, List.set_cons_zero, List.set_cons_succ, i64_w, i32_w]
                              rfl
                            refine pure_ (i := 5) (N := some 110) (v := ?_) (a' := ?_) #[true, true, true, false, true, true, false, false, false, false, false, false, false, false, false] rfl rfl (any_of HT_.out (by kernel_rfl)) (fun _ _ _ h => h) (Or.inl ⟨by rfl, ?_⟩) ?_ ?_
                            rotate_left
                            · intro w'
                              go_simp
                              with_reducible rfl
                            rotate_left
                            · simp only [Act.put, List.setIfInBounds_toArray, List.set_cons_zero, List.set_cons_succ, i64_w, i32_w]
                              rfl
                            refine pure_ (i := 6) (N := some 111) (v := ?_) (a' := ?_) #[true, true, true, false, true, true, true, false, false, false, false, false, false, false, false] rfl rfl (any_of HT_.out (by kernel_rfl)) (fun _ _ _ h => h) (Or.inl ⟨by rfl, ?_⟩) ?_ ?_
                            rotate_left
                            · intro w'
                              go_simp
                              with_reducible rfl
                            rotate_left
                            · simp only [Act.put, List.setIfInBounds_toArray, List.set_cons_zero, List.set_cons_succ, i64_w, i32_w]
                              rfl
                            refine pure_ (i := 7) (N := some 112) (v := ?_) (a' := ?_) #[true, true, true, false, true, true, true, true, false, false, false, false, false, false, false] rfl rfl (any_of HT_.out (by kernel_rfl)) (fun _ _ _ h => h) (Or.inl ⟨by rfl, ?_⟩) ?_ ?_
                            rotate_left
                            · intro w'
                              go_simp
                              with_reducible rfl
                            rotate_left
                            · simp only [Act.put, List.setIfInBounds_toArray, List.set_cons_zero, List.set_cons_succ, i64_w, i32_w]
                              rfl
                            refine pure_ (i := 9) (N := some 114) (v := ?_) (a' := ?_) #[true, true, true, false, true, true, true, true, false, true, false, false, false, false, false] rfl rfl (any_of HT_.out (by kernel_rfl)) (fun _ _ _ h => h) (Or.inl ⟨by rfl, ?_⟩) ?_ ?_
                            rotate_left
                            · intro w'
                              go_simp
                              with_reducible rfl
                            rotate_left
                            · simp only [Act.put, List.setIfInBounds_toArray, List.set_cons_zero, List.set_cons_succ, i64_w, i32_w]
                              rfl
                            refine take_ (i := 3) (N := some 108) (v := ?_) (a' := ?_) #[true, true, true, true, true, true, true, true, false, true, false, false, false, false, false] rfl rfl (take_ofW HT_.out HW_.out (by kernel_rfl)) (fun _ _ _ h => h) (Or.inl ⟨by rfl, ?_⟩) hHeld ?_ ?_
                            rotate_left
                            · rintro w' ⟨s0, s1⟩
                              go_simp
                              with_reducible rfl
                            rotate_left
                            · simp only [Act.put, List.setIfInBounds_toArray, List.set_cons_zero, List.set_cons_succ, i64_w, i32_w]
                              rfl
                            refine take_ (i := 8) (N := some 113) (v := ?_) (a' := ?_) #[true, true, true, true, true, true, true, true, true, true, false, false, false, false, false] rfl rfl (take_ofW HT_.out HW_.out (by kernel_rfl)) (fun _ _ _ h => h) (Or.inl ⟨by rfl, ?_⟩) hHeld ?_ ?_
                            rotate_left
                            · rintro w' ⟨s0, s1⟩
                              go_simp
                              with_reducible rfl
                            rotate_left
                            · simp only [Act.put, List.setIfInBounds_toArray, List.set_cons_zero, List.set_cons_succ, i64_w, i32_w]
                              rfl
                            refine pure_ (i := 10) (N := some 115) (v := ?_) (a' := ?_) #[true, true, true, true, true, true, true, true, true, true, true, false, false, false, false] rfl rfl (any_of HT_.out (by kernel_rfl)) (fun _ _ _ h => h) (Or.inl ⟨by rfl, ?_⟩) ?_ ?_
                            rotate_left
                            · intro w'
                              go_simp
                              with_reducible rfl
                            rotate_left
                            · simp only [Act.put, List.setIfInBounds_toArray, List.set_cons_zero, List.set_cons_succ, i64_w, i32_w]
                              rfl
                            refine take_ (i := 11) (N := some 116) (v := ?_) (a' := ?_) #[true, true, true, true, true, true, true, true, true, true, true, true, false, false, false] rfl rfl (take_ofW HT_.out HW_.out (by kernel_rfl)) (fun _ _ _ h => h) (Or.inl ⟨by rfl, ?_⟩) hHeld ?_ ?_
                            rotate_left
                            · rintro w' ⟨s0, s1⟩
                              go_simp
                              with_reducible rfl
                            rotate_left
                            · simp only [Act.put, List.setIfInBounds_toArray, List.set_cons_zero, List.set_cons_succ, i64_w, i32_w]
                              rfl
                            refine pure_ (i := 12) (N := some 117) (v := ?_) (a' := ?_) #[true, true, true, true, true, true, true, true, true, true, true, true, true, false, false] rfl rfl (any_of HT_.out (by kernel_rfl)) (fun _ _ _ h => h) (Or.inl ⟨by rfl, ?_⟩) ?_ ?_
                            rotate_left
                            · intro w'
                              go_simp
                              with_reducible rfl
                            rotate_left
                            · simp only [Act.put, List.setIfInBounds_toArray, List.set_cons_zero, List.set_cons_succ, i64_w, i32_w]
                              rfl
                            refine pure_ (i := 13) (N := some 118) (v := ?_) (a' := ?_) #[true, true, true, true, true, true, true, true, true, true, true, true, true, true, false] rfl rfl (any_of HT_.out (by kernel_rfl)) (fun _ _ _ h => h) (Or.inl ⟨by rfl, ?_⟩) ?_ ?_
                            rotate_left
                            · intro w'
                              go_simp
                              with_reducible rfl
                            rotate_left
                            · simp only [Act.put, List.setIfInBounds_toArray, List.set_cons_zero, List.set_cons_succ, i64_w, i32_w]
                              rfl
                            refine last_ (i := 14) (N := none) #[true, true, true, true, true, true, true, true, true, true, true, true, true, true, true] rfl rfl (one_of HT_.out (by kernel_rfl)) (by decide) (fun K hK => ?_)
                            refine skip_ (w1 := ?_) (by rfl) rfl ?_ ?_
                            rotate_left
                            · go_simp
                              rfl
                            refine hK.out _ _ ?_
                            clear hK K
                            refine done_ (done_of HT_.out (by kernel_rfl)) ?_
                            go_wp2_with fail
                            go_roundw
                            case measure => simp [intOf]; have := HUM.out; have := HM4.out; omega
                            case rel => exact ⟨u + 1, HUM.out, by have := HUM.out; have := HM4.out; go_num, ⟨(HS.out _).drew⟩⟩
                          · obtain rfl : u = m := by omega
                            have hui : decide ((u : Int) < (u : Int)) = false := decide_eq_false (by omega)
                            obtain ⟨b, cb, xa⟩ := HX.out.head HTQ.out
                            go_wp2_with fail
                            go_roundw
                            case measure => simp [intOf]; have := HTQ.out; omega
                            case rel => exact ⟨t + 1, HTQ.out, by go_num, HX⟩
                      · obtain rfl : t = q + 2 := by omega
                        have hti : decide ((q : Int) + 2 < (q : Int) + 2) = false := decide_eq_false (by omega)
                        obtain ⟨_, _, _, hBx⟩ := HX.out
                        have HBX := Aside0.mk (below_then HB5.out HB5.out.size hBx)
                        have HSM := Aside0.mk (by have := same13 wr q A8 (some ad) c8 ca a (Kd.C_below HM5.out hBx) (Kd.C_below HA.out HBX.out) HL8.out HCA.out (by omega); exact this : Calls Try.prog 13 #[.slice A8 q c8, .slice (some ad) q ca] wr fun e w' => e = .returned (.bool true) ∧ Below wr.heap.size wr w')
                        clear hBx
                        go_wp2_with (first | (go_at_call 13; refine Calls.mono HSM.out ?_; rintro e wy ⟨rfl, hb9⟩; have HBY := Aside0.mk (below_then HBX.out HBX.out.size hb9); clear hb9))
                        go_ret
                        exact ⟨rfl, HBY.out⟩
                · go_wp2_with (first
                    | (go_at_call 11; refine Calls.mono HP.out ?_; rintro e w5 ⟨pb, p0, p1, rfl, hp⟩; have HP5 := Aside0.mk hp; have HB5 := Aside0.mk (below_then HBw.out HBw.out.size hp.below); have HC5 := Aside0.mk (HCr.out.below hp.below); have HR5 := Aside0.mk (rows_all (HYa.out.toRows.below hp.below) hp (by have := HM4.out; omega)); have HM5 := Aside0.mk (Kd.C_below HMI.out hp.below); have HC85 := Aside0.mk (Kd.C_below HC8.out hp.below); have HPC := Aside0.mk (KH_pair' hp.top); have HE5 := Aside0.mk (KH_empty w5 (Nat.le_refl w5.heap.size)); have HBe := Aside0.mk (below_alloc (Below.refl w5.heap.size w5) (.cells #[] 25)); clear hp HP HCr)
                    | ((with_reducible refine gate_builtin (b := .append) (xs := #[.tmp 68, .tmp 69]) rfl ?_); refine Kd.R_append_rows KH (w0 := w5) w5.heap.size rfl (.tmp 68) (.tmp 69) 22 25 (.slice none 0 0) 24 rfl Try.underlying22 Go.Proofs.Ytjolnjckgoilpaa.PRa.info25 rfl (by decide) (by omega) (.slice (some ⟨w5.heap.size, 0, none⟩) 0 0) [] hs _ _ _ (fun _ => True) (fun _ => False) rfl rfl HE5.out (Kd.C_below HC85.out HBe.out) (fun _ _ h => h) (fun _ h => h.elim) (fun _ _ => trivial) HBe.out HBe.out.size (by simp; omega) ?_
                       intro v6 w6 ho hb hg hat
                       rw [List.nil_append] at ho
                       have H6 := Aside0.mk ho
                       have HB6 := Aside0.mk hb
                       clear ho hb hg hat HE5 HBe)
                    | ((with_reducible refine gate_builtin (b := .append) (xs := #[.tmp 70, .tmp 71]) rfl ?_); refine Kd.R_append_rows KH (w0 := w5) w5.heap.size rfl (.tmp 70) (.tmp 71) 22 25 (.slice none 0 0) 24 rfl Try.underlying22 Go.Proofs.Ytjolnjckgoilpaa.PRa.info25 rfl (by decide) (by omega) v6 hs [(some ⟨p0, 0, none⟩, m, m), (some ⟨p1, 0, none⟩, m, m)] _ _ _ (fun _ => True) (fun _ => False) rfl rfl H6.out (Kd.C_below HPC.out HB6.out) (fun _ _ h => h) (fun _ h => h.elim) (fun _ _ => trivial) HB6.out HB6.out.size (by rw [HHL.out]; omega) ?_
                       intro v8 w8 ho hb hg hat
                       have H8 := Aside0.mk ho
                       have HB8 := Aside0.mk hb
                       obtain ⟨ab, cap, ev, hab, _⟩ := Kd.R_form ho (by simp)
                       rw [List.length_append, HHL.out] at ev
                       subst ev
                       have HAB := Aside0.mk hab
                       clear ho hb hg hat H6 HB6 HPC hab
                       have hAL : (hs ++ [(some ⟨p0, 0, none⟩, m, m), (some ⟨p1, 0, none⟩, m, m)] : List Hd).length = q + 2 := by rw [List.length_append, HHL.out]; rfl
                       have HK8 := Aside0.mk (KH_len H8.out hAL).1
                       have HCP := Aside0.mk (KH_len H8.out hAL).2
                       have HGE := Aside0.mk (Kd.R_base H8.out ab rfl)
                       have HAL := Aside0.mk hAL
                       clear hAL
                       obtain ⟨L, _, hRB⟩ := rebuild_few w8 gc q (HC5.out.below HB8.out) h1 h2 (some ⟨ab, 0, none⟩) cap (allL a q m) (q + 2) (KR_of_KH HK8.out (HR5.out.below HB8.out)) rfl HCP.out m HM1.out (by have := HM4.out; omega) HOA.out (fun i hi => .inr (HLN.out i hi)) (by rw [miss_rows HM1.out (by rw [HLA.out]; exact HLN.out)]; exact Nat.zero_le _)
                       have HRB := Aside0.mk (hRB.mono fun e w' h => h.old HB8.out)
                       clear hRB)
                    | (go_at_call 12; refine Calls.mono HRB.out ?_; rintro e wx hx; obtain ⟨ob, cx, hsx, rfl, hy⟩ := hx.ow; have HX := Aside0.mk hy; clear hy hx HRB))
                  go_loopw [15, 16] (fun v jv W => ∃ (t : Nat), t ≤ q + 2 ∧ v = .int .i64 t ∧ Aside0 (Ow w5 W (q + 2) m ob cx hsx)) (fun v _ _ => q + 2 - (intOf v).toNat)
                  case atStart => exact ⟨0, Nat.zero_le _, rfl, HX⟩
                  case round =>
                    clear HX
                    obtain ⟨t, ht, rfl, HX⟩ := hrel
                    by_cases htq : t < q + 2
                    · obtain ⟨b, cb, xa⟩ := HX.out.head htq
                      have HTQ := Aside0.mk htq
                      have hti : decide ((t : Int) < (q : Int) + 2) = true := decide_eq_true (by omega)
                      have ht0 : (0 : Int) ≤ (t : Int) := by omega
                      have ht1 : (t : Int) < (q : Int) + 2 := by omega
                      clear ht
                      go_wp2_with fail
                      go_loopw [16] (fun jv W => ∃ (u : Nat), u ≤ m ∧ jv = .int .i64 u ∧ Aside0 (Ow w5 W (q + 2) m ob cx hsx)) (fun jv _ => m - (intOf jv).toNat)
                      case atStart => exact ⟨0, Nat.zero_le _, rfl, HX⟩
                      case round =>
                        clear HX xa
                        obtain ⟨u, hu, rfl, HX⟩ := hrel
                        by_cases hum : u < m
                        · obtain ⟨b, cb, yv, xa, xv, xf, hset⟩ := HX.out.cell HTQ.out hum
                          have HS := Aside0.mk hset
                          have HUM := Aside0.mk hum
                          have hui : decide ((u : Int) < (m : Int)) = true := decide_eq_true (by omega)
                          have hu0 : (0 : Int) ≤ (u : Int) := by omega
                          have hu1 : (u : Int) < (m : Int) := by omega
                          have hu9 : (m : Int) ≤ 4000 := by have := HM4.out; omega
                          clear hu hset HX
                          go_wp2_with fail
                          refine start_ (n := 15) (S := fun w' => w'.cell? ⟨ob, t, none⟩ = some (.slice (some ⟨b, 0, none⟩) m cb) ∧ w'.cell? ⟨b, u, none⟩ = some (.int .u8 yv)) (ds := [14]) #[false, false, false, false, false, false, false, false, false, false, false, false, false, false, false] (by kernel_rfl) rfl rfl ⟨xa, xv⟩ (fun hHeld => ?_)
                          refine with_tabW own5.tab27 own5.bits27 (fun HT_ HW_ => ?_)
                          refine pure_ (i := 0) (N := some 105) (v := ?_) (a' := ?_) #[true, false, false, false, false, false, false, false, false, false, false, false, false, false, false] rfl rfl (any_of HT_.out (by kernel_rfl)) (fun _ _ _ h => h) (Or.inl ⟨by rfl, ?_⟩) ?_ ?_
                          rotate_left
                          · intro w'
                            go_simp
                            with_reducible rfl
                          rotate_left
                          · simp only [Act.put, List.setIfInBounds_toArray, List.set_cons_zero, List.set_cons_succ, i64_w, i32_w]
                            rfl
                          refine pure_ (i := 1) (N := some 106) (v := ?_) (a' := ?_) #[true, true, false, false, false, false, false, false, false, false, false, false, false, false, false] rfl rfl (any_of HT_.out (by kernel_rfl)) (fun _ _ _ h => h) (Or.inl ⟨by rfl, ?_⟩) ?_ ?_
                          rotate_left
                          · intro w'
                            go_simp
                            with_reducible rfl
                          rotate_left
                          · simp only [Act.put, List.setIfInBounds_toArray, List.set_cons_zero, List.set_cons_succ, i64_w, i32_w]
                            rfl
                          refine pure_ (i := 2) (N := some 107) (v := ?_) (a' := ?_) #[true, true, true, false, false, false, false, false, false, false, false, false, false, false, false] rfl rfl (any_of HT_.out (by kernel_rfl)) (fun _ _ _ h => h) (Or.inl ⟨by rfl, ?_⟩) ?_ ?_
                          rotate_left
                          · intro w'
                            go_simp
                            with_reducible rfl
                          rotate_left
                          · simp only [Act.put, List.setIfInBounds_toArray, List.set_cons_zero, List.set_cons_succ, i64_w, i32_w]
                            rfl
                          refine pure_ (i := 4) (N := some 109) (v := ?_) (a' := ?_) #[true, true, true, false, true, false, false, false, false, false, false, false, false, false, false] rfl rfl (any_of HT_.out (by kernel_rfl)) (fun _ _ _ h => h) (Or.inl ⟨by rfl, ?_⟩) ?_ ?_
                          rotate_left
                          · intro w'
                            go_simp
                            with_reducible rfl
                          rotate_left
                          · simp only [Act.put, List.setIfInBounds_toArray, List.set_cons_zero, List.set_cons_succ, i64_w, i32_w]
                            rfl
                          refine pure_ (i := 5) (N := some 110) (v := ?_) (a' := ?_) #[true, true, true, false, true, true, false, false, false, false, false, false, false, false, false] rfl rfl (any_of HT_.out (by kernel_rfl)) (fun _ _ _ h => h) (Or.inl ⟨by rfl, ?_⟩) ?_ ?_
                          rotate_left
                          · intro w'
                            go_simp
                            with_reducible rfl
                          rotate_left
                          · simp only [Act.put, List.setIfInBounds_toArray, List.set_cons_zero, List.set_cons_succ, i64_w, i32_w]
                            rfl
                          refine pure_ (i := 6) (N := some 111) (v := ?_) (a' := ?_) #[true, true, true, false, true, true, true, false, false, false, false, false, false, false, false] rfl rfl (any_of HT_.out (by kernel_rfl)) (fun _ _ _ h => h) (Or.inl ⟨by rfl, ?_⟩) ?_ ?_
                          rotate_left
                          · intro w'
                            go_simp
                            with_reducible rfl
                          rotate_left
                          · simp only [Act.put, List.setIfInBounds_toArray, List.set_cons_zero, List.set_cons_succ, i64_w, i32_w]
                            rfl
                          refine pure_ (i := 7) (N := some 112) (v := ?_) (a' := ?_) #[true, true, true, false, true, true, true, true, false, false, false, false, false, false, false] rfl rfl (any_of HT_.out (by kernel_rfl)) (fun _ _ _ h => h) (Or.inl ⟨by rfl, ?_⟩) ?_ ?_
                          rotate_left
                          · intro w'
                            go_simp
                            with_reducible rfl
                          rotate_left
                          · simp only [Act.put, List.setIfInBounds_toArray, List.set_cons_zero, List.set_cons_succ, i64_w, i32_w]
                            rfl
                          refine pure_ (i := 9) (N := some 114) (v := ?_) (a' := ?_) #[true, true, true, false, true, true, true, true, false, true, false, false, false, false, false] rfl rfl (any_of HT_.out (by kernel_rfl)) (fun _ _ _ h => h) (Or.inl ⟨by rfl, ?_⟩) ?_ ?_
                          rotate_left
                          · intro w'
                            go_simp
                            with_reducible rfl
                          rotate_left
                          · simp only [Act.put, List.setIfInBounds_toArray, List.set_cons_zero, List.set_cons_succ, i64_w, i32_w]
                            rfl
                          refine take_ (i := 3) (N := some 108) (v := ?_) (a' := ?_) #[true, true, true, true, true, true, true, true, false, true, false, false, false, false, false] rfl rfl (take_ofW HT_.out HW_.out (by kernel_rfl)) (fun _ _ _ h => h) (Or.inl ⟨by rfl, ?_⟩) hHeld ?_ ?_
                          rotate_left
                          · rintro w' ⟨s0, s1⟩
                            go_simp
                            with_reducible rfl
                          rotate_left
                          · simp only [Act.put, List.setIfInBounds_toArray, List.set_cons_zero, List.set_cons_succ, i64_w, i32_w]
                            rfl
                          refine take_ (i := 8) (N := some 113) (v := ?_) (a' := ?_) #[true, true, true, true, true, true, true, true, true, true, false, false, false, false, false] rfl rfl (take_ofW HT_.out HW_.out (by kernel_rfl)) (fun _ _ _ h => h) (Or.inl ⟨by rfl, ?_⟩) hHeld ?_ ?_
                          rotate_left
                          · rintro w' ⟨s0, s1⟩
                            go_simp
                            with_reducible rfl
                          rotate_left
                          · simp only [Act.put, List.setIfInBounds_toArray, List.set_cons_zero, List.set_cons_succ, i64_w, i32_w]
                            rfl
                          refine pure_ (i := 10) (N := some 115) (v := ?_) (a' := ?_) #[true, true, true, true, true, true, true, true, true, true, true, false, false, false, false] rfl rfl (any_of HT_.out (by kernel_rfl)) (fun _ _ _ h => h) (Or.inl ⟨by rfl, ?_⟩) ?_ ?_
                          rotate_left
                          · intro w'
                            go_simp
                            with_reducible rfl
                          rotate_left
                          · simp only [Act.put, List.setIfInBounds_toArray, List.set_cons_zero, List.set_cons_succ, i64_w, i32_w]
                            rfl
                          refine take_ (i := 11) (N := some 116) (v := ?_) (a' := ?_) #[true, true, true, true, true, true, true, true, true, true, true, true, false, false, false] rfl rfl (take_ofW HT_.out HW_.out (by kernel_rfl)) (fun _ _ _ h => h) (Or.inl ⟨by rfl, ?_⟩) hHeld ?_ ?_
                          rotate_left
                          · rintro w' ⟨s0, s1⟩
                            go_simp
                            with_reducible rfl
                          rotate_left
                          · simp only [Act.put, List.setIfInBounds_toArray, List.set_cons_zero, List.set_cons_succ, i64_w, i32_w]
                            rfl
                          refine pure_ (i := 12) (N := some 117) (v := ?_) (a' := ?_) #[true, true, true, true, true, true, true, true, true, true, true, true, true, false, false] rfl rfl (any_of HT_.out (by kernel_rfl)) (fun _ _ _ h => h) (Or.inl ⟨by rfl, ?_⟩) ?_ ?_
                          rotate_left
                          · intro w'
                            go_simp
                            with_reducible rfl
                          rotate_left
                          · simp only [Act.put, List.setIfInBounds_toArray, List.set_cons_zero, List.set_cons_succ, i64_w, i32_w]
                            rfl
                          refine pure_ (i := 13) (N := some 118) (v := ?_) (a' := ?_) #[true, true, true, true, true, true, true, true, true, true, true, true, true, true, false] rfl rfl (any_of HT_.out (by kernel_rfl)) (fun _ _ _ h => h) (Or.inl ⟨by rfl, ?_⟩) ?_ ?_
                          rotate_left
                          · intro w'
                            go_simp
                            with_reducible rfl
                          rotate_left
                          · simp only [Act.put, List.setIfInBounds_toArray, List.set_cons_zero, List.set_cons_succ, i64_w, i32_w]
                            rfl
                          refine last_ (i := 14) (N := none) #[true, true, true, true, true, true, true, true, true, true, true, true, true, true, true] rfl rfl (one_of HT_.out (by kernel_rfl)) (by decide) (fun K hK => ?_)
                          refine skip_ (w1 := ?_) (by rfl) rfl ?_ ?_
                          rotate_left
                          · go_simp
                            rfl
                          refine hK.out _ _ ?_
                          clear hK K
                          refine done_ (done_of HT_.out (by kernel_rfl)) ?_
                          go_wp2_with fail
                          go_roundw
                          case measure => simp [intOf]; have := HUM.out; have := HM4.out; omega
                          case rel => exact ⟨u + 1, HUM.out, by have := HUM.out; have := HM4.out; go_num, ⟨(HS.out _).drew⟩⟩
                        · obtain rfl : u = m := by omega
                          have hui : decide ((u : Int) < (u : Int)) = false := decide_eq_false (by omega)
                          obtain ⟨b, cb, xa⟩ := HX.out.head HTQ.out
                          go_wp2_with fail
                          go_roundw
                          case measure => simp [intOf]; have := HTQ.out; omega
                          case rel => exact ⟨t + 1, HTQ.out, by go_num, HX⟩
                    · obtain rfl : t = q + 2 := by omega
                      have hti : decide ((q : Int) + 2 < (q : Int) + 2) = false := decide_eq_false (by omega)
                      obtain ⟨_, _, _, hBx⟩ := HX.out
                      have HBX := Aside0.mk (below_then HB5.out HB5.out.size hBx)
                      have HSM := Aside0.mk (by have := same13 wr q A8 (some ad) c8 ca a (Kd.C_below HM5.out hBx) (Kd.C_below HA.out HBX.out) HL8.out HCA.out (by omega); exact this : Calls Try.prog 13 #[.slice A8 q c8, .slice (some ad) q ca] wr fun e w' => e = .returned (.bool true) ∧ Below wr.heap.size wr w')
                      clear hBx
                      go_wp2_with (first | (go_at_call 13; refine Calls.mono HSM.out ?_; rintro e wy ⟨rfl, hb9⟩; have HBY := Aside0.mk (below_then HBX.out HBX.out.size hb9); clear hb9))
                      go_ret
                      exact ⟨rfl, HBY.out⟩
              · have HP := Aside0.mk (by have := parity11_no wr gc q HCr.out A8 c8 a (by rw [HKA.out]; exact HMI.out) (by rw [HKA.out]; exact HL8.out) (by rw [HKA.out]; omega) (fun h => hgd (fun i hi => by rw [← HMm.out]; exact sizes_conv h.1.2 h.2 i (by rw [HKA.out]; exact hi))); rw [HKA.out] at this; exact this : Calls Try.prog 11 #[.pointer (some ⟨gc, 0, none⟩), .slice A8 q c8] wr (NoQ wr 1))
                clear hgd
                go_wp2_with (go_at_call 11; refine Calls.mono HP.out ?_; rintro e w5 ⟨rfl, hb5⟩; have HB5 := Aside0.mk (below_then HBw.out HBw.out.size hb5); clear hb5)
                go_ret
                exact ⟨rfl, HB5.out⟩
    · have d1 : decide ((k : Int) < 1) = false := decide_eq_false (by omega)
      have d2 : decide ((32 : Int) < (k : Int)) = true := decide_eq_true (by omega)
      go_wp2_with (first | (go_at_call 8; refine Calls.mono (HK.out _) ?_; rintro e w1 ⟨rfl, hb⟩; have HB := Aside0.mk hb; clear hb))
      go_ret
      exact ⟨rfl, HB.out⟩
  · have d1 : decide ((k : Int) < 1) = true := decide_eq_true (by omega)
    go_wp2_with (first | (go_at_call 8; refine Calls.mono (HK.out _) ?_; rintro e w1 ⟨rfl, hb⟩; have HB := Aside0.mk hb; clear hb))
    go_ret
    exact ⟨rfl, HB.out⟩
end Go.Proofs.Ytjolnjckgoilpaa.Rs
