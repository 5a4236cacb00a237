/-
  The walk of the law ShaSums.
-/
import Derived.Test.YtcagmiglgpjcjaaShaKn
import Derived.Test.YtcagmiglgpjcjaaShaRef
import Derived.Test.YtcagmiglgpjcjaaShaWb
import Derived.Test.YtcagmiglgpjcjaaShaEq2
import Derived.Test.YtcagmiglgpjcjaaShaLen
import Derived.Test.YtcagmiglgpjcjaaPSax2
set_option linter.unusedVariables false
set_option linter.unusedSimpArgs false
namespace Go.Proofs.Ytcagmiglgpjcjaa.Sh
open Go.RowKit Go.Proofs.YtcagmiglgpjcjaaW.PrintWords Go.Proofs.YtcagmiglgpjcjaaW.PrintLast Go.Proofs.YtcagmiglgpjcjaaW.PrintMore Go.Proofs.Ytcagmiglgpjcjaa.PSa

theorem joined_all (l : List (List Int)) : ∀ (m i : Nat), m + i = l.length → (joinK l i).length ≤ 4000 →
    ∃ r1 r2, flintlaw15_joined.l0 (m + 1) l (joinK l i) (i : Int) = some (r1, r2) ∧ (r2 = true → r1 = l.flatten ∧ l.flatten.length ≤ 4000)
  | 0, i, h, hl => by
    refine ⟨joinK l i, true, ?_, fun _ => ?_⟩
    · rw [flintlaw15_joined.l0, if_neg (by omega)]
    · have e : i = l.length := by omega
      subst e
      rw [joinK_all] at hl ⊢
      exact ⟨rfl, hl⟩
  | m + 1, i, h, hl => by
    rw [flintlaw15_joined.l0, if_pos (by omega)]
    by_cases h500 : (l.length : Int) > 500
    · rw [if_pos h500]
      exact ⟨[], false, rfl, fun h => by cases h⟩
    · rw [if_neg h500, if_pos (by omega)]
      have hrd : rd_L1 l (i : Int) = row l i := rfl
      rw [hrd]
      have w1 : wrap64 (4000 - ((joinK l i).length : Int)) = 4000 - ((joinK l i).length : Int) := by unfold wrap64; omega
      have w2 : wrap64 ((i : Int) + 1) = ((i + 1 : Nat) : Int) := by unfold wrap64; omega
      rw [w1, w2]
      by_cases hr : ((row l i).length : Int) > 4000 - ((joinK l i).length : Int)
      · rw [if_pos hr]
        exact ⟨[], false, rfl, fun h => by cases h⟩
      · rw [if_neg hr, if_pos (by omega), ← joinK_succ l i (by omega)]
        exact joined_all l m (i + 1) (by omega) (by rw [joinK_succ l i (by omega), List.length_append]; omega)
theorem joined_ok (l : List (List Int)) : ∃ r1 r2, flintlaw15_joined.f (l.length + 1) l = some (r1, r2) ∧ (r2 = true → r1 = l.flatten ∧ l.flatten.length ≤ 4000) :=
  joined_all l l.length 0 (by omega) (by simp [joinK])
theorem joinK_take (l : List (List Int)) (k : Nat) : l.flatten.take (joinK l k).length = joinK l k := by
  have h : l.flatten = joinK l k ++ (l.drop k).flatten := by rw [joinK, ← List.flatten_append, List.take_append_drop]
  rw [h, List.take_left']
  rfl
theorem meas_1 (n k : Nat) (h : k < n) : n - (intOf (Value.int IntKind.i64 ((k : Int) + 1))).toNat < n - (intOf (Value.int IntKind.i64 (k : Int))).toNat := by
  simp only [intOf]
  omega
set_option maxRecDepth 100000 in
set_option maxHeartbeats 40000000 in
theorem sums4 (w : World) (l : List (List Int)) (A : Option Addr) (c : Nat) (hC : KR.C w A l.length l) (hc : l.length ≤ c) :
    Calls Try.prog 4 #[.slice A l.length c] w fun e w' => e = .returned (.bool true) ∧ Below w.heap.size w w' := by
  have HK := Aside0.mk (fun W => known7 W)
  obtain ⟨r1, r2, hj, hj2⟩ := joined_ok l
  have HC := Aside0.mk hC
  have HJ := Aside0.mk (fun W (hb : Below w.heap.size w W) => flintlaw15_joined.calls (l.length + 1) A c l r1 r2 W (Kd.C_below HC.out hb) hc hj)
  clear hC hj
  go_enter Try.func4, Try.ntmps4
  cases r2 with
  | false =>
    go_wp2_with (first
      | (go_at_call 7; refine (HK.out _).mono ?_; rintro e w1 ⟨rfl, hb1⟩)
      | (go_at_call 10; refine (HJ.out _ hb1).mono ?_; rintro e w2 ⟨v2, rfl, hR2, hb2⟩))
    go_ret
    exact ⟨rfl, below_then hb1 hb1.size hb2⟩
  | true =>
    obtain ⟨rfl, hF⟩ := hj2 rfl
    by_cases h20 : (l.length : Int) > 20
    · go_wp2_with (first
        | (go_at_call 7; refine (HK.out _).mono ?_; rintro e w1 ⟨rfl, hb1⟩)
        | (go_at_call 10; refine (HJ.out _ hb1).mono ?_; rintro e w2 ⟨v2, rfl, hR2, hb2⟩))
      go_ret
      exact ⟨rfl, below_then hb1 hb1.size hb2⟩
    · have HF := Aside0.mk hF
      have Hn := Aside0.mk (show l.length ≤ 1000000 by omega)
      have H8 := Aside0.mk (fun W (hb : Below w.heap.size w W) => ssum8 W l A c l.length (Kd.C_below HC.out hb) rfl Hn.out (by have := HF.out; omega))
      have H9 := Aside0.mk (fun (W : World) (A2 : Option Addr) (c2 : Nat) (h : KBs.C W A2 l.flatten.length l.flatten) (h2 : l.flatten.length ≤ c2) => rsum9 W l.flatten A2 c2 h h2 (by have := HF.out; omega))
      have H8b := Aside0.mk (fun (W : World) (q : Nat) (A2 : Option Addr) (c2 : Nat) (h : KBs.C W A2 l.flatten.length l.flatten) (h2 : l.flatten.length ≤ c2) (hq : W.heap[q]? = some (Obj.cells #[Value.slice A2 l.flatten.length c2] 23 (0, 0))) => by
        have hs := ssum8 W [l.flatten] (some ⟨q, 0, none⟩) 1 1 (KR_one hq h2 h) rfl (by decide) (by simp; have := HF.out; simp at this; omega)
        rw [show [l.flatten].flatten = l.flatten by simp] at hs
        exact hs)
      have hSl := sum_length l.flatten
      have hTk := joinK_take l
      have hAll := joinK_all l
      have hJle := joinK_le l
      generalize hFl : l.flatten = F at *
      have HTk := Aside0.mk hTk
      have HAll := Aside0.mk hAll
      have HJle := Aside0.mk hJle
      clear hTk hAll hFl hJle
      generalize hO : sum F = O at *
      have heq := fun W => eq25 O O hSl hSl W
      have HO := Aside0.mk hO
      clear hO hF hj2
      go_wp2_with (first
        | (go_at_call 7; refine (HK.out _).mono ?_; rintro e w1 ⟨rfl, hb1⟩)
        | (go_at_call 10; refine (HJ.out _ hb1).mono ?_; rintro e w2 ⟨v2, rfl, hR2, hb2⟩; replace hb2 := below_then hb1 hb1.size hb2; obtain ⟨Ab, cb, eb, hcb, hCb⟩ := Kd.R_reads hR2; subst eb; have HCb := Aside0.mk (fun W (hb : Below w2.heap.size w2 W) => Kd.C_below hCb hb); have Hcb := Aside0.mk hcb; have Hb2 := Aside0.mk hb2; clear HJ hR2 hb2 hb1 hCb hcb)
        | (go_at_call 8; refine (H8.out _ Hb2.out).mono ?_; rintro e w3 ⟨rfl, hb3⟩; have Hb3 := Aside0.mk hb3; clear hb3 H8)
        | (go_at_call 9; refine (H9.out _ Ab cb (HCb.out _ Hb3.out) Hcb.out).mono ?_; rintro e w4 ⟨rfl, hb4⟩; have Hb4 := Aside0.mk (below_then Hb3.out Hb3.out.size hb4); clear hb4 Hb3)
        | (go_at_call 8; refine (H8b.out (w4.alloc (.cells #[.slice Ab F.length cb] 23)) w4.heap.size Ab cb (Kd.C_alloc (HCb.out _ Hb4.out) _) Hcb.out (blk_new w4 _)).mono ?_; rintro e w5 ⟨rfl, hb5⟩; have Hb5 := Aside0.mk (below_then (Hb4.out.alloc Hb4.out.size _) (Hb4.out.alloc Hb4.out.size _).size hb5); clear hb5 Hb4 H8b)
        | (go_at_call 9; refine (H9.out _ Ab cb (HCb.out _ Hb5.out) Hcb.out).mono ?_; rintro e w6 ⟨rfl, hb6⟩; have Hb6 := Aside0.mk (below_then Hb5.out Hb5.out.size hb6); clear hb6 Hb5)
        | (go_at_call 11; refine (new11 _).mono ?_; rintro e w7 ⟨rfl, hb7, hD7⟩; have Hb7 := Aside0.mk hb7; have HD7 := Aside0.mk hD7; clear hb7 hD7))
      clear HK h20
      generalize hg : w6.heap.size = g at *
      have hgl : g < w7.heap.size := HD7.out.lt
      go_loopw [7, 6, 8, 9] (fun i n _ _ wr => ∃ k : Nat, k ≤ l.length ∧ i = .int .i64 (k : Nat) ∧ n = .int .i64 ((joinK l k).length : Nat) ∧ Below g w6 wr ∧ Dg wr g (dH (joinK l k) H0) (dR (joinK l k)) ((joinK l k).length : Nat)) (fun i _ _ _ _ => l.length - (intOf i).toNat)
      case atStart => exact ⟨0, by omega, rfl, rfl, Hb7.out, by rw [show joinK l 0 = [] by simp [joinK]]; exact HD7.out⟩
      case round =>
        clear Hb7 HD7 hgl
        obtain ⟨k, hk, rfl, rfl, hB, hD⟩ := hrel
        have hB2 : Below w2.heap.size w2 wr := below_then Hb6.out Hb6.out.size (by rw [hg]; exact hB)
        have hBw : Below w.heap.size w wr := below_then Hb2.out Hb2.out.size hB2
        by_cases hlt : k < l.length
        · generalize wr = wo at *
          obtain ⟨ad, A', c', eA, hcell0, hle, hI0⟩ := rows_at HC.out hlt
          subst eA
          have hcell := pw_cell_below hBw hcell0
          have hI := Kd.C_below hI0 hBw
          have HRow := Aside0.mk (show ∀ W : World, Below w.heap.size w W → W.cell? (ad.add k) = some (.slice A' (row l k).length c') from fun W hb => pw_cell_below hb hcell0)
          have hJs := joinK_succ l k hlt
          have hJl := HJle.out (k + 1)
          rw [hJs, List.length_append] at hJl
          have hTk := HTk.out (k + 1)
          rw [hJs] at hTk
          have hgo : g < wo.heap.size := hD.lt
          have hcell2 := pw_cell_below (below_alloc (Below.refl _ _) (.cells #[] 5)) hcell
          have HE := Aside0.mk (show Kd.R KBs 5 (wo.alloc (.cells #[] 5)) wo.heap.size (fun _ => True) (.slice (some ⟨wo.heap.size, 0, none⟩) 0 0) [] from
            Kd.R_of_own ⟨by simp [encs], .inr ⟨wo.heap.size, 0, #[], rfl, Nat.le_refl _, heap_alloc_new _ _, by simp, by unfold maxLen; omega, by simp, by simp [encs]⟩⟩ (fun _ _ => trivial))
          have HI2 := Aside0.mk (Kd.C_alloc hI (.cells #[] 5))
          have HBe := Aside0.mk (below_alloc (Below.refl wo.heap.size wo) (.cells #[] 5))
          have HF2 := Aside0.mk (show (joinK l k).length + (row l k).length ≤ 4000 by have := HF.out; omega)
          have HLn := Aside0.mk (show (([] : List Int).length + (row l k).length) * 1 ≤ 140737488355328 by have := HF2.out; simp; omega)
          have HJs := Aside0.mk hJs
          have HTk2 := Aside0.mk hTk
          have HD := Aside0.mk hD
          have HB := Aside0.mk hB
          have HB2 := Aside0.mk hB2
          have q1 : (0 : Int) ≤ (k : Int) := by omega
          have q2 : (k : Int) < (l.length : Int) := by omega
          obtain ⟨n1, hn1⟩ : ∃ n1, (joinK l k).length + (row l k).length = n1 := ⟨_, rfl⟩
          have Hn1 := Aside0.mk hn1
          have w1' : wrap64 (((joinK l k).length : Int) + ((row l k).length : Int)) = (n1 : Int) := by have := HF2.out; unfold wrap64; omega
          have w2' : wrap64 ((k : Int) + 1) = (k : Int) + 1 := by have := Hn.out; unfold wrap64; omega
          clear hn1 hI0 hcell0 hI hJs hJl hTk hD hB hB2 hBw hle
          generalize hT : joinK l k = T at *
          generalize hRo : row l k = Ro at *
          clear hT hRo
          go_wp2_with (first
            | ((with_reducible refine gate_dst (N := 51) rfl ?_); refine Kd.R_append_rows KBs (w0 := wo) wo.heap.size rfl (.tmp 46) (.tmp 50) 23 5 (.int .u8 0) 1 rfl Try.underlying23 info5 rfl (by decide) (by omega) _ [] Ro _ _ _ (fun _ => True) (fun _ => False) rfl rfl HE.out HI2.out (fun _ _ h => h) (fun _ h => h.elim) (fun _ _ => trivial) HBe.out HBe.out.size HLn.out ?_; intro v8 w8 ho hb hg' hat; obtain ⟨A8, c8, e8, hc8, hC8⟩ := Kd.R_reads ho; rw [List.nil_append] at e8 hc8 hC8 ho; subst e8; have HR8 := Aside0.mk ho; have HB8 := Aside0.mk hb; have HC8 := Aside0.mk hC8; have Hc8 := Aside0.mk hc8; clear ho hb hg' hat hC8 hc8 HE HI2 HBe hcell2)
            | (go_at_call 12; refine (writeB w8 g H0 T Ro T.length A8 c8 rfl (HD.out.keep HB8.out) HC8.out Hc8.out (by have := HF2.out; omega) (by have := HF2.out; omega)).mono ?_; rintro e w9 ⟨rfl, hG9, hD9⟩; have HG9 := Aside0.mk hG9; have HD9 := Aside0.mk hD9; clear hG9 hD9))
          have HA8 := Aside0.mk (show ∀ ad, A8 = some ad → wo.heap.size ≤ ad.block ∧ ad.block < w8.heap.size from fun ad e => by
            have h1 := Kd.R_base HR8.out
            have h2 := Kd.R_lt HR8.out
            subst e
            exact ⟨h1 ad.block (by simp [Value.ownBlock]), h2 ad.block (by simp [Value.ownBlock])⟩)
          have HR9 := Aside0.mk (show Kd.R KBs 5 w9 wo.heap.size (fun _ => True) (.slice A8 Ro.length c8) Ro from by
            obtain ⟨v, h1, _⟩ := (HD.out.keep HB8.out).out
            exact R_kept HR8.out h1 HG9.out)
          have HB9 := Aside0.mk (show Below wo.heap.size wo w9 ∨ True from Or.inr trivial)
          have HB9g := Aside0.mk (show Below g w6 w9 from (HB.out.trans (HB8.out.mono (by omega))).grown HG9.out (by have := HB8.out.size; omega) (fun k hk => by injection hk with hk; omega))
          obtain ⟨LR, hLR⟩ : ∃ n, Ro.length = n := ⟨_, rfl⟩
          have HLR := Aside0.mk hLR
          rw [hLR]
          rw [hLR] at HR9
          clear HR8 HC8 HB9 HG9 hcell hLR
          go_loopw [9] (fun v wx => ∃ j : Nat, j ≤ LR ∧ v = .int .i64 (j : Nat) ∧ (∃ mk : List Int, mk.length = LR ∧ Kd.R KBs 5 wx wo.heap.size (fun _ => True) (.slice A8 LR c8) mk) ∧ Db w8.heap.size wx g (dH (T ++ Ro) H0) (dR (T ++ Ro)) ((n1 : Nat) : Int) ∧ Below g w6 wx) (fun v _ => LR - (intOf v).toNat)
          case atStart => exact ⟨0, by omega, rfl, ⟨Ro, HLR.out, HR9.out⟩, by rw [← Hn1.out]; exact HD9.out, HB9g.out⟩
          case round =>
            clear HR9 HD9 HB9g
            obtain ⟨j, hj, rfl, ⟨mk, hmk, hR⟩, hDb, hBx⟩ := hrel
            by_cases hlj : j < LR
            · obtain ⟨cap, q, cur, eq, hq⟩ : ∃ (cap q : Nat) (cur : Array Value), Value.slice A8 LR c8 = .slice (some ⟨q, 0, none⟩) LR cap ∧ True := by
                rcases (Kd.own_of_R hR).2 with ⟨e, _⟩ | ⟨q, cap, cur, e, _⟩
                · injection e with e1 e2 e3
                  omega
                · rw [hmk] at e
                  exact ⟨cap, q, cur, e, trivial⟩
              injection eq with eA _ ec
              subst eA
              subst ec
              obtain ⟨hq1, hq2⟩ := HA8.out _ rfl
              obtain ⟨hcx, hfx⟩ := Kd.R_celln (0 : Int) hR (j : Int) (by omega) (by omega)
              have hput := fun x : Int => Kd.R_putn hR (j : Int) x
              rw [Int.toNat_natCast] at hcx hfx hput
              have HPut := Aside0.mk (show ∀ x : Int, (∃ mk : List Int, mk.length = LR ∧ Kd.R KBs 5 (wr.setCell ⟨q, j, none⟩ (.int .u8 x)) wo.heap.size (fun _ => True) (.slice (some ⟨q, 0, none⟩) LR c8) mk) ∧ Db w8.heap.size (wr.setCell ⟨q, j, none⟩ (.int .u8 x)) g (dH (T ++ Ro) H0) (dR (T ++ Ro)) ((n1 : Nat) : Int) ∧ Below g w6 (wr.setCell ⟨q, j, none⟩ (.int .u8 x)) from fun x =>
                ⟨⟨mk.set j x, by rw [List.length_set, hmk], hput x⟩, hDb.far (only_set ⟨rfl, rfl, rfl, Nat.le_refl _, fun _ _ _ => rfl⟩ _ _) (by have : wo.heap.size ≤ q := hq1; omega) hq2, hBx.setCell (by have : wo.heap.size ≤ q := hq1; show g ≤ q; omega) _⟩)
              have q3 : (0 : Int) ≤ (j : Int) := by omega
              have q4 : (j : Int) < (LR : Int) := by omega
              have w3' : wrap64 ((j : Int) + 1) = (j : Int) + 1 := by have := HF2.out; have := HLR.out; unfold wrap64; omega
              clear hR hput hDb hBx
              generalize rdOf (0 : Int) mk j = y at *
              clear hmk
              go_wp2
              go_roundw
              case rel => exact ⟨j + 1, hlj, by rw [w3']; rfl, HPut.out ((y + 1) % 256)⟩
              case measure =>
                rw [w3']
                exact meas_1 LR j hlj
            · obtain rfl : j = LR := Nat.le_antisymm hj (Nat.not_lt.1 hlj)
              clear hR
              have hBx2 : Below w2.heap.size w2 wr := below_then Hb6.out Hb6.out.size (by rw [hg]; exact hBx)
              have hcellx := HRow.out wr (below_then Hb2.out Hb2.out.size hBx2)
              have HBx := Aside0.mk hBx
              have HDx := Aside0.mk hDb.dg
              have HCx := Aside0.mk (show ∀ W : World, Below wr.heap.size wr W → KBs.C W Ab n1 (T ++ Ro) from fun W hb => by
                have h1 := HCb.out W (below_then hBx2 hBx2.size hb)
                have h2 := Kd.C_take (m := (T ++ Ro).length) h1 (by have := HTk2.out; have h3 := congrArg List.length this; rw [List.length_take] at h3; omega)
                rw [HTk2.out, List.length_append, Hn1.out] at h2
                exact h2)
              have HlT := Aside0.mk (show (T ++ Ro).length = n1 ∧ n1 ≤ 4000 by rw [List.length_append, Hn1.out]; have := HF2.out; have := Hn1.out; omega)
              have HnF := Aside0.mk (show n1 ≤ F.length by have := HTk2.out; have h3 := congrArg List.length this; rw [List.length_take, HlT.out.1] at h3; omega)
              have HC13 := Aside0.mk (dsum13 wr.drew g (T ++ Ro) (by rw [HlT.out.1]; exact HDx.out.keep (below_drew (Below.refl _ _))) (by rw [HlT.out.1]; have := HlT.out.2; omega))
              have HC9 := Aside0.mk (show ∀ W : World, Below wr.drew.heap.size wr.drew W → Calls Try.prog 9 #[.slice Ab n1 cb] W fun e w' => e = .returned (.agg (u8s (sum (T ++ Ro)))) ∧ Below W.heap.size W w' from fun W hb => by
                have h9 := rsum9 W (T ++ Ro) Ab cb (by rw [HlT.out.1]; exact HCx.out W ⟨hb.os, hb.tape, hb.output, hb.size, hb.block⟩) (by rw [HlT.out.1]; have := HnF.out; have := Hcb.out; omega) (by rw [HlT.out.1]; have := HlT.out.2; omega)
                rw [HlT.out.1] at h9
                exact h9)
              have hdl : (dH (T ++ Ro) H0).length = 8 := by rw [dH, absN_length]; rfl
              have HC14 := Aside0.mk (fun (W : World) (hb : Below wr.drew.heap.size wr.drew W) => len14 W g _ _ _ (HDx.out.keep (show Below wr.heap.size wr W from ⟨hb.os, hb.tape, hb.output, hb.size, hb.block⟩)) hdl)
              obtain ⟨i5, hi5, _, hs5, _⟩ := info_parts info5
              have hcut1 := cut_to (P := Try.prog) 23 5 .i64 Try.underlying23 hi5 Ab F.length cb (n1 : Int) (by omega) (by have := HnF.out; omega) Hcb.out
              have hsl := sum_length (T ++ Ro)
              generalize sum (T ++ Ro) = O2 at *
              have heq2 := fun W => eq25 O2 O2 hsl hsl W
              clear hDb hBx hBx2 hdl
              go_wp2
              refine start_ (n := 13) (S := fun w' => True) (ds := []) #[false, false, false, false, false, false, false, false, false, false, false, false, false] (by kernel_rfl) rfl rfl trivial (fun hHeld => ?_)
              refine pure_ (i := 0) (N := some 76) (v := ?_) (a' := ?_) #[true, false, false, false, false, false, false, false, false, false, false, false, false] rfl rfl (by kernel_rfl) (fun _ _ _ h => h) (Or.inl ⟨by rfl, ?_⟩) ?_ ?_
              rotate_left
              · intro w'
                go_simp
                with_reducible rfl
              rotate_left
              · simp only [Act.put, List.setIfInBounds_toArray, List.set_cons_zero, List.set_cons_succ, i64_w, i32_w]
                rfl
              refine pure_ (i := 2) (N := some 78) (v := ?_) (a' := ?_) #[true, false, true, false, false, false, false, false, false, false, false, false, false] rfl rfl (by kernel_rfl) (fun _ _ _ h => h) (Or.inl ⟨by rfl, ?_⟩) ?_ ?_
              rotate_left
              · intro w'
                go_simp
                with_reducible rfl
              rotate_left
              · simp only [Act.put, List.setIfInBounds_toArray, List.set_cons_zero, List.set_cons_succ, i64_w, i32_w]
                rfl
              refine pure_ (i := 3) (N := some 79) (v := ?_) (a' := ?_) #[true, false, true, true, false, false, false, false, false, false, false, false, false] rfl rfl (by kernel_rfl) (fun _ _ _ h => h) (Or.inl ⟨by rfl, ?_⟩) ?_ ?_
              rotate_left
              · intro w'
                go_simp
                with_reducible rfl
              rotate_left
              · simp only [Act.put, List.setIfInBounds_toArray, List.set_cons_zero, List.set_cons_succ, i64_w, i32_w]
                rfl
              refine pure_ (i := 4) (N := some 80) (v := ?_) (a' := ?_) #[true, false, true, true, true, false, false, false, false, false, false, false, false] rfl rfl (by kernel_rfl) (fun _ _ _ h => h) (Or.inl ⟨by rfl, ?_⟩) ?_ ?_
              rotate_left
              · intro w'
                refine (exec_slice 23 (.tmp 78) none (some (.tmp 79)) none ?_ Try.underlying23 (hcut1 w') ?_ ?_ ?_ ?_).trans ?_ <;> first | (with_reducible rfl) | rfl
              rotate_left
              · simp only [Act.put, List.setIfInBounds_toArray, List.set_cons_zero, List.set_cons_succ, i64_w, i32_w]
                rfl
              refine one_ (i := 1) (N := some 77) #[true, true, true, true, true, false, false, false, false, false, false, false, false] rfl rfl (by kernel_rfl) (by decide) (fun K hK => ?_)
              refine goes_ Try.func13 (by kernel_rfl) rfl #[.pointer (some ⟨g, 0, none⟩)] (by rfl) rfl rfl (by simp only [List.map_toArray, List.map_cons, List.map_nil]; rfl) ?_
              refine Calls.mono (HC13.out) ?_
              rintro e w11 ⟨rfl, hB11⟩
              refine ⟨_, rfl, ?_⟩
              refine hK.out _ _ trivial (fun hHeld => ?_)
              clear hK K
              refine norm_ (a' := ?_) ?_ ?_
              rotate_left
              · show Act.put _ (some 77) _ = _
                simp only [Act.put, List.setIfInBounds_toArray, List.set_cons_zero, List.set_cons_succ, i64_w, i32_w]
                rfl
              refine one_ (i := 5) (N := some 81) #[true, true, true, true, true, true, false, false, false, false, false, false, false] rfl rfl (by kernel_rfl) (by decide) (fun K hK => ?_)
              refine goes_ Try.func9 (by kernel_rfl) rfl #[.slice Ab n1 cb] (by rfl) rfl rfl (by simp only [List.map_toArray, List.map_cons, List.map_nil]; rfl) ?_
              refine Calls.mono (HC9.out _ hB11) ?_
              rintro e w12 ⟨rfl, hB12⟩
              refine ⟨_, rfl, ?_⟩
              refine hK.out _ _ trivial (fun hHeld => ?_)
              clear hK K
              refine norm_ (a' := ?_) ?_ ?_
              rotate_left
              · show Act.put _ (some 81) _ = _
                simp only [Act.put, List.setIfInBounds_toArray, List.set_cons_zero, List.set_cons_succ, i64_w, i32_w]
                rfl
              refine pure_ (i := 6) (N := some 82) (v := ?_) (a' := ?_) #[true, true, true, true, true, true, true, false, false, false, false, false, false] rfl rfl (by kernel_rfl) (fun _ _ _ h => h) (Or.inl ⟨by rfl, ?_⟩) ?_ ?_
              rotate_left
              · intro w'
                go_simp
                with_reducible rfl
              rotate_left
              · simp only [Act.put, List.setIfInBounds_toArray, List.set_cons_zero, List.set_cons_succ, i64_w, i32_w]
                rfl
              refine pure_ (i := 7) (N := some 83) (v := ?_) (a' := ?_) #[true, true, true, true, true, true, true, true, false, false, false, false, false] rfl rfl (by kernel_rfl) (fun _ _ _ h => h) (Or.inl ⟨by rfl, ?_⟩) ?_ ?_
              rotate_left
              · intro w'
                go_simp
                with_reducible rfl
              rotate_left
              · simp only [Act.put, List.setIfInBounds_toArray, List.set_cons_zero, List.set_cons_succ, i64_w, i32_w]
                rfl
              refine pure_ (i := 8) (N := some 84) (v := ?_) (a' := ?_) #[true, true, true, true, true, true, true, true, true, false, false, false, false] rfl rfl (by kernel_rfl) (fun _ _ _ h => h) (Or.inl ⟨by rfl, ?_⟩) ?_ ?_
              rotate_left
              · intro w'
                go_simp
                with_reducible rfl
              rotate_left
              · simp only [Act.put, List.setIfInBounds_toArray, List.set_cons_zero, List.set_cons_succ, i64_w, i32_w]
                rfl
              refine pure_ (i := 10) (N := some 86) (v := ?_) (a' := ?_) #[true, true, true, true, true, true, true, true, true, false, true, false, false] rfl rfl (by kernel_rfl) (fun _ _ _ h => h) (Or.inl ⟨by rfl, ?_⟩) ?_ ?_
              rotate_left
              · intro w'
                go_simp
                with_reducible rfl
              rotate_left
              · simp only [Act.put, List.setIfInBounds_toArray, List.set_cons_zero, List.set_cons_succ, i64_w, i32_w]
                rfl
              refine one_ (i := 9) (N := some 85) #[true, true, true, true, true, true, true, true, true, true, true, false, false] rfl rfl (by kernel_rfl) (by decide) (fun K hK => ?_)
              refine goes_ Try.func14 (by kernel_rfl) rfl #[.pointer (some ⟨g, 0, none⟩)] (by rfl) rfl rfl (by simp only [List.map_toArray, List.map_cons, List.map_nil]; rfl) ?_
              refine Calls.mono (HC14.out _ (below_then hB11 hB11.size hB12)) ?_
              rintro e w13 ⟨rfl, hDr⟩
              refine ⟨_, rfl, ?_⟩
              refine hK.out _ _ trivial (fun hHeld => ?_)
              clear hK K
              refine norm_ (a' := ?_) ?_ ?_
              rotate_left
              · show Act.put _ (some 85) _ = _
                simp only [Act.put, List.setIfInBounds_toArray, List.set_cons_zero, List.set_cons_succ, i64_w, i32_w]
                rfl
              refine pure_ (i := 11) (N := some 87) (v := ?_) (a' := ?_) #[true, true, true, true, true, true, true, true, true, true, true, true, false] rfl rfl (by kernel_rfl) (fun _ _ _ h => h) (Or.inl ⟨by rfl, ?_⟩) ?_ ?_
              rotate_left
              · intro w'
                go_simp
                with_reducible rfl
              rotate_left
              · simp only [Act.put, List.setIfInBounds_toArray, List.set_cons_zero, List.set_cons_succ, i64_w, i32_w]
                rfl
              refine pure_ (i := 12) (N := some 88) (v := ?_) (a' := ?_) #[true, true, true, true, true, true, true, true, true, true, true, true, true] rfl rfl (by kernel_rfl) (fun _ _ _ h => h) (Or.inl ⟨by rfl, ?_⟩) ?_ ?_
              rotate_left
              · intro w'
                go_simp
                with_reducible rfl
              rotate_left
              · simp only [Act.put, List.setIfInBounds_toArray, List.set_cons_zero, List.set_cons_succ, i64_w, i32_w]
                rfl
              refine done_ (by kernel_rfl) ?_
              go_wp2
              go_roundw
              case rel =>
                have b11 : Below wr.heap.size wr w11 := ⟨hB11.os, hB11.tape, hB11.output, hB11.size, hB11.block⟩
                have b12 := below_then b11 b11.size hB12
                obtain ⟨nd, rfl⟩ := hDr
                have b13 : Below wr.heap.size wr (w12.drewN nd) := pw_below_drewN b12 nd
                refine ⟨k + 1, hlt, rfl, ?_, HBx.out.trans (b13.mono (by have := HDx.out.lt; omega)), ?_⟩
                · rw [HJs.out, HlT.out.1]
                · rw [HJs.out, HlT.out.1]
                  exact HDx.out.keep b13
              case measure =>
                exact meas_1 l.length k hlt
        · obtain rfl : k = l.length := Nat.le_antisymm hk (Nat.not_lt.1 hlt)
          rw [HAll.out] at hD
          have HD := Aside0.mk (dsum13 wr g F hD (by have := HF.out; omega))
          have HD9 := Aside0.mk (show ∀ W : World, Below wr.heap.size wr W → Calls Try.prog 9 #[.slice Ab F.length cb] W fun e w' => e = .returned (.agg (u8s O)) ∧ Below W.heap.size W w' from fun W hb => H9.out W Ab cb (HCb.out W (below_then hB2 hB2.size hb)) Hcb.out)
          have HBw := Aside0.mk hBw
          rw [HO.out] at HD
          clear hB hD hB2 hBw
          go_wp2_with (first
            | (go_at_call 13; refine HD.out.mono ?_; rintro e w11 ⟨rfl, hB11⟩)
            | (go_at_call 9; refine (HD9.out _ hB11).mono ?_; rintro e w12 ⟨rfl, hB12⟩))
          go_ret
          exact ⟨rfl, below_then HBw.out HBw.out.size (below_then hB11 hB11.size hB12)⟩
end Go.Proofs.Ytcagmiglgpjcjaa.Sh
