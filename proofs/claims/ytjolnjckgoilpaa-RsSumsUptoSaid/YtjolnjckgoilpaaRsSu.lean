/-
  The law RsSums: its walk.
-/
import Derived.Test.YtjolnjckgoilpaaRsKw
import Derived.Test.YtjolnjckgoilpaaRsLin
set_option linter.unusedVariables false
set_option linter.unusedSimpArgs false
namespace Go.Proofs.Ytjolnjckgoilpaa.Rs
open Go.RowKit Go.Proofs.YtjolnjckgoilpaaW.PrintWords Go.Proofs.YtjolnjckgoilpaaW.PrintLast Go.Proofs.YtjolnjckgoilpaaW.PrintMore Go.Proofs.Ytjolnjckgoilpaa.PRa Go.Proofs.Ytjolnjckgoilpaa.Gf
def sums4.T16 : Bool × List (List Nat × List Nat) := (true, [([], []), ([], []), ([], []), ([], []), ([2, 3], [2, 3]), ([4], [4]), ([], []), ([5, 6], [5, 6]), ([7], [7]), ([], []), ([], []), ([9, 10], [9, 10]), ([11], [11]), ([], []), ([12, 13], [12, 13]), ([14], [14]), ([8, 15], [8, 15]), ([0, 1, 0, 1, 2, 3, 4, 5, 6, 7, 8, 9, 10, 11, 12, 13, 14, 15, 16], [0, 1]), ([17, 16, 0, 1, 2, 3, 4, 5, 6, 7, 8, 9, 10, 11, 12, 13, 14, 15, 16], [16, 17])])
def sums4.B16 : List Nat := [0, 0, 0, 0, 12, 28, 0, 124, 252, 0, 0, 1536, 3584, 0, 15872, 32256, 65532, 131071, 262143]
theorem sums4.tab16 : rtab .any (opsOf Try.f4 16) = sums4.T16 := by kernel_rfl
theorem sums4.bits16 : waitsOk sums4.T16.2 sums4.B16 = true := by kernel_rfl
def sums4.T34 : Bool × List (List Nat × List Nat) := (true, [([], []), ([0], [0]), ([1], [1]), ([], []), ([2, 3], [2, 3]), ([4], [4]), ([], []), ([5, 6], [5, 6]), ([7], [7]), ([8], [8]), ([9, 8], [8, 9]), ([10, 8], [8, 10]), ([8], [8]), ([11, 12, 8], [8, 11, 12]), ([13, 8], [8, 13]), ([8], [8]), ([15, 8], [8, 15]), ([16, 8], [8, 16]), ([8], [8]), ([17, 18, 8], [8, 17, 18]), ([19, 8], [8, 19]), ([14, 20, 8], [8, 14, 20]), ([8], [8]), ([22, 8], [8, 22]), ([23, 8], [8, 23]), ([8], [8]), ([24, 25, 8], [8, 24, 25]), ([26, 8], [8, 26]), ([21, 27, 8], [8, 21, 27]), ([8, 28], [8, 28]), ([29, 8], [29]), ([30], [30]), ([31, 30], [30, 31]), ([32, 30], [30, 32]), ([30], [30]), ([33, 34, 30], [30, 33, 34]), ([35, 30], [30, 35]), ([30], [30]), ([37, 30], [30, 37]), ([38, 30], [30, 38]), ([30], [30]), ([39, 40, 30], [30, 39, 40]), ([41, 30], [30, 41]), ([36, 42, 30], [30, 36, 42]), ([30], [30]), ([44, 30], [30, 44]), ([45, 30], [30, 45]), ([30], [30]), ([46, 47, 30], [30, 46, 47]), ([48, 30], [30, 48]), ([43, 49, 30], [30, 43, 49]), ([30, 50], [30, 50])])
def sums4.B34 : List Nat := [0, 1, 3, 0, 15, 31, 0, 127, 255, 511, 1023, 2047, 511, 8191, 16383, 511, 33279, 98815, 511, 492031, 1016319, 2097151, 511, 4194815, 12583423, 511, 62915071, 130023935, 268435455, 536870911, 1073741823, 2147483647, 4294967295, 8589934591, 2147483647, 34359738367, 68719476735, 2147483647, 139586437119, 414464344063, 2147483647, 2063731785727, 4262755041279, 8796093022207, 2147483647, 17594333528063, 52778705616895, 2147483647, 263884938149887, 545359914860543, 1125899906842623, 2251799813685247]
theorem sums4.tab34 : rtab .any (opsOf Try.f4 34) = sums4.T34 := by kernel_rfl
theorem sums4.bits34 : waitsOk sums4.T34.2 sums4.B34 = true := by kernel_rfl
set_option maxHeartbeats 32000000 in
set_option maxRecDepth 100000 in
theorem sums4 (w : World) (A : Option Addr) (ca : Nat) (a : List (List Int)) (hA : KR.C w A a.length a) (hca : a.length ≤ ca) (B : Option Addr) (cb : Nat) (b : List (List Int)) (hB : KR.C w B b.length b) (hcb : b.length ≤ cb)
    (oka : okB a = true) (okb : okB b = true) (la : a.length ≤ 100000000) (lb : b.length ≤ 100000000) (sa : (a.map List.length).sum ≤ 100000000) (sb : (b.map List.length).sum ≤ 100000000) :
    Calls Try.prog 4 #[.slice A a.length ca, .slice B b.length cb] w fun e w' => e = .returned (.bool true) ∧ Below w.heap.size w w' := by
  have HK := Aside0.mk (fun (W : World) => known8 W)
  have HFa := Aside0.mk (fun (W : World) (hW : Below w.heap.size w W) => few9 W A ca a (Kd.C_below hA hW) hca la sa)
  have HFb := Aside0.mk (fun (W : World) (hW : Below w.heap.size w W) => few9 W B cb b (Kd.C_below hB hW) hcb lb sb)
  have HA := Aside0.mk hA
  have HBB := Aside0.mk hB
  have OKa := Aside0.mk oka
  have OKb := Aside0.mk okb
  obtain ⟨k, hk⟩ : ∃ k, a.length = k := ⟨_, rfl⟩
  obtain ⟨kb, hkb⟩ : ∃ kb, b.length = kb := ⟨_, rfl⟩
  rw [hk] at HFa HA ⊢
  rw [hkb] at HFb HBB ⊢
  have HKA := Aside0.mk hk
  have HKB := Aside0.mk hkb
  have HCA := Aside0.mk (show k ≤ ca by omega)
  have HCB := Aside0.mk (show kb ≤ cb by omega)
  clear hA hB hca hcb oka okb la lb sa sb hk hkb
  go_enter Try.func4, Try.ntmps4
  by_cases h1 : 1 ≤ k
  · by_cases h2 : k ≤ 32
    · have d1 : decide ((k : Int) < 1) = false := decide_eq_false (by omega)
      have d2 : decide ((32 : Int) < (k : Int)) = false := decide_eq_false (by omega)
      by_cases h3 : kb = k
      · subst h3
        cases h4 : fewB a
        · rw [h4] at HFa
          have d3 : ((kb : Int) != (kb : Int)) = false := by simp
          go_wp2_with (first | (go_at_call 8; refine Calls.mono (HK.out _) ?_; rintro e w1 ⟨rfl, hb⟩; have HB := Aside0.mk hb; clear hb) | (go_at_call 9; refine Calls.mono (HFa.out _ HB.out) ?_; rintro e w2 ⟨rfl, hd⟩; replace HB := Aside0.mk (below_then HB.out HB.out.size hd.below); clear hd))
          go_ret
          exact ⟨rfl, HB.out⟩
        · rw [h4] at HFa
          have HF4 := Aside0.mk h4
          clear h4
          cases h5 : fewB b
          · rw [h5] at HFb
            go_wp2_with (first | (go_at_call 8; refine Calls.mono (HK.out _) ?_; rintro e w1 ⟨rfl, hb⟩; have HB := Aside0.mk hb; clear hb) | ((go_at_call 9; refine Calls.mono (HFa.out _ HB.out) ?_; rintro e w2 ⟨rfl, hd⟩; replace HB := Aside0.mk (below_then HB.out HB.out.size hd.below); clear hd); clear HFa) | (go_at_call 9; refine Calls.mono (HFb.out _ HB.out) ?_; rintro e w3 ⟨rfl, hd⟩; replace HB := Aside0.mk (below_then HB.out HB.out.size hd.below); clear hd))
            go_ret
            exact ⟨rfl, HB.out⟩
          · rw [h5] at HFb
            obtain ⟨ad, A0, c0, eA, hx0, hl0, hi0⟩ := rows_at HA.out (i := 0) (by omega)
            subst eA
            rw [show ad.add 0 = ad by simp [Addr.add]] at hx0
            have HM4 := Aside0.mk (few_row HF4.out 0)
            obtain ⟨m, hm⟩ : ∃ m, (row a 0).length = m := ⟨_, rfl⟩
            rw [hm] at hx0 HM4
            have HX0 := Aside0.mk hx0
            have HMm := Aside0.mk hm
            clear hx0 hl0 hi0 h5 hm
            by_cases h6 : m = 0
            · subst h6
              go_wp2_with (first | (go_at_call 8; refine Calls.mono (HK.out _) ?_; rintro e w1 ⟨rfl, hb⟩; have HB := Aside0.mk hb; clear hb) | ((go_at_call 9; refine Calls.mono (HFa.out _ HB.out) ?_; rintro e w2 ⟨rfl, hd⟩; replace HB := Aside0.mk (below_then HB.out HB.out.size hd.below); clear hd); clear HFa) | ((go_at_call 9; refine Calls.mono (HFb.out _ HB.out) ?_; rintro e w3 ⟨rfl, hd⟩; replace HB := Aside0.mk (below_then HB.out HB.out.size hd.below); clear hd); clear HFb; have x0 := pw_cell_below HB.out HX0.out))
              go_ret
              exact ⟨rfl, HB.out⟩
            · have d6 : ((m : Int) == 0) = false := by simp; omega
              go_wp2_with (first | (go_at_call 8; refine Calls.mono (HK.out _) ?_; rintro e w1 ⟨rfl, hb⟩; have HB := Aside0.mk hb; clear hb) | ((go_at_call 9; refine Calls.mono (HFa.out _ HB.out) ?_; rintro e w2 ⟨rfl, hd⟩; replace HB := Aside0.mk (below_then HB.out HB.out.size hd.below); clear hd); clear HFa) | ((go_at_call 9; refine Calls.mono (HFb.out _ HB.out) ?_; rintro e w3 ⟨rfl, hd⟩; replace HB := Aside0.mk (below_then HB.out HB.out.size hd.below); clear hd); clear HFb; have x0 := pw_cell_below HB.out HX0.out))
              clear HK d1 d2 d6
              have HM1 := Aside0.mk (show 0 < m by omega)
              go_loopw [6, 7] (fun sv i W => ∃ (j : Nat), j ≤ kb ∧ i = .int .i64 j ∧ Aside0 (∀ q, q < j → (row a q).length = m ∧ (row b q).length = m) ∧ Aside0 (Kd.R KR 25 W w.heap.size (fun _ => True) sv (sumL a b m j)) ∧ Aside0 (Below w.heap.size w W)) (fun _ i _ => kb - (intOf i).toNat)
              case atStart => exact ⟨0, Nat.zero_le _, rfl, ⟨fun q hq => absurd hq (Nat.not_lt_zero _)⟩, ⟨Kd.R_nil _ _ _ _ _⟩, HB⟩
              case round =>
                clear HB
                obtain ⟨j, hj, rfl, HL, HS, HB⟩ := hrel
                by_cases hjk : j < kb
                · clear hj
                  obtain ⟨ad', Aj, cj, eA, xa, la, ia⟩ := rows_at HA.out (i := j) hjk
                  obtain rfl : ad = ad' := by injection eA
                  obtain ⟨bd, Bj, dj, eB, xb, lb, ib⟩ := rows_at HBB.out (i := j) hjk
                  subst eB
                  have HXA := Aside0.mk xa
                  have HXB := Aside0.mk xb
                  replace xa := pw_cell_below HB.out xa
                  replace xb := pw_cell_below HB.out xb
                  have x0 := pw_cell_below HB.out HX0.out
                  have hji : decide ((j : Int) < (kb : Int)) = true := decide_eq_true (by omega)
                  have hj0 : (0 : Int) ≤ (j : Int) := by omega
                  have hj1 : (j : Int) < (kb : Int) := by omega
                  have hk0 : (0 : Int) < (kb : Int) := by omega
                  have IA := Aside0.mk ia
                  have IB := Aside0.mk ib
                  clear ia ib eA la lb
                  obtain ⟨la, hla⟩ : ∃ la, (row a j).length = la := ⟨_, rfl⟩
                  obtain ⟨lb, hlb⟩ : ∃ lb, (row b j).length = lb := ⟨_, rfl⟩
                  rw [hla] at xa IA HXA
                  rw [hlb] at xb IB HXB
                  have HLa := Aside0.mk hla
                  have HLb := Aside0.mk hlb
                  clear hla hlb
                  go_wp2_with fail
                  by_cases e1 : la = m
                  · have f1 : ((la : Int) != (m : Int)) = false := by rw [e1]; simp
                    by_cases e2 : lb = m
                    · have f2 : ((lb : Int) != (m : Int)) = false := by rw [e2]; simp
                      go_quiet (fail)
                      subst e1
                      subst e2
                      clear f1 f2
                      replace x0 := pw_cell_below (pw_below_drewN (Below.refl wr.heap.size wr) nq) x0
                      have HBq := Aside0.mk (pw_below_drewN HB.out nq)
                      have HSq := Aside0.mk (Kd.R_drewN HS.out nq)
                      replace xa := pw_cell_below (pw_below_drewN (Below.refl wr.heap.size wr) nq) xa
                      replace xb := pw_cell_below (pw_below_drewN (Below.refl wr.heap.size wr) nq) xb
                      clear HB HS
                      generalize wr.drewN nq = wq at *
                      have hmk := make_row lb (by have := HM4.out; omega)
                      go_wp2_with fail
                      have HB2 := Aside0.mk (below_alloc HBq.out (.cells (byC lb fun _ => 0) 5))
                      have HS2 := Aside0.mk (Kd.R_alloc (Kd.R_elderB HSq.out wq.heap.size (Nat.le_refl _)) (.cells (byC lb fun _ => 0) 5))
                      have HX2 := Aside0.mk (show RowAt (wq.alloc (.cells (byC lb fun _ => 0) 5)) wq.heap.size lb (fun _ => 0) from heap_alloc_last _ _)
                      replace xa := pw_cell_below (below_alloc (Below.refl wq.heap.size wq) (.cells (byC lb fun _ => 0) 5)) xa
                      replace xb := pw_cell_below (below_alloc (Below.refl wq.heap.size wq) (.cells (byC lb fun _ => 0) 5)) xb
                      have HSN := Aside0.mk (Kd.R_lt HSq.out)
                      have HWG := Aside0.mk HBq.out.size
                      have HAL := Aside0.mk (fun (W : World) (h : Below (wq.alloc (.cells (byC lb fun _ => 0) 5)).heap.size (wq.alloc (.cells (byC lb fun _ => 0) 5)) W) => h)
                      clear x0 hk0
                      clear HBq HSq hmk xa xb hji hj0 hj1
                      have HGL := Aside0.mk (show wq.heap.size < (wq.alloc (.cells (byC lb fun _ => 0) 5)).heap.size by simp)
                      generalize wq.alloc (.cells (byC lb fun _ => 0) 5) = wz at *
                      generalize wq.heap.size = g at *
                      have HJK := Aside0.mk hjk
                      clear hjk HAL
                      go_loopw [9] (fun i W => ∃ (q : Nat), q ≤ lb ∧ i = .int .i64 q ∧ Aside0 (RowAt W g lb (fun x => if x < q then byt a j x ^^^ byt b j x else 0)) ∧ Aside0 (Kd.R KR 25 W w.heap.size (fun k => True ∧ k ≠ g) u6 (sumL a b lb j)) ∧ Aside0 (Below w.heap.size w W)) (fun i _ => lb - (intOf i).toNat)
                      case atStart => exact ⟨0, Nat.zero_le _, rfl, ⟨HX2.out.same (fun j _ => by simp)⟩, HS2, HB2⟩
                      case round =>
                        clear HX2 HS2 HB2
                        obtain ⟨q, hq, rfl, HO, HS, HB⟩ := hrel
                        by_cases hqm : q < lb
                        · clear hq
                          have xa := pw_cell_below HB.out HXA.out
                          have xb := pw_cell_below HB.out HXB.out
                          obtain ⟨ai, eI, va⟩ := byte_at (r := row a j) (by rw [HLa.out]; exact IA.out) (j := q) (by rw [HLa.out]; exact hqm)
                          obtain ⟨bi, eJ, vb⟩ := byte_at (r := row b j) (by rw [HLb.out]; exact IB.out) (j := q) (by rw [HLb.out]; exact hqm)
                          subst eI
                          subst eJ
                          have hba := okB_at OKa.out j q
                          have hbb := okB_at OKb.out j q
                          rw [hba.2] at va
                          rw [hbb.2] at vb
                          replace va := pw_cell_below HB.out va
                          replace vb := pw_cell_below HB.out vb
                          have hcell := HO.out.cell hqm
                          rw [if_neg (Nat.lt_irrefl q)] at hcell
                          have hfr := HO.out.frozen q
                          have hxr := xor_nat _ _ hba.1 hbb.1
                          have HO2 := Aside0.mk (fun (W : World) (hW : RowAt W g lb (fun x => if x < q then byt a j x ^^^ byt b j x else 0)) => ((hW.set_ q (byt a j q ^^^ byt b j q)).same (fun p _ => by
                            by_cases e : p = q
                            · subst e; simp
                            · by_cases h : p < q
                              · rw [if_neg e, if_pos h, if_pos (by omega)]
                              · rw [if_neg e, if_neg h, if_neg (by omega)]) : RowAt (W.setCell ⟨g, q, none⟩ (.int .u8 ((byt a j q ^^^ byt b j q : Nat) : Int))) g lb (fun x => if x < q + 1 then byt a j x ^^^ byt b j x else 0)))
                          have hqi : decide ((q : Int) < (lb : Int)) = true := decide_eq_true (by omega)
                          have hq0 : (0 : Int) ≤ (q : Int) := by omega
                          have hq1 : (q : Int) < (lb : Int) := by omega
                          have hj0 : (0 : Int) ≤ (j : Int) := by omega
                          have hj1 : (j : Int) < (kb : Int) := by have := HJK.out; omega
                          clear hba hbb
                          generalize hss : byt a j q ^^^ byt b j q = ss at HO2 hxr
                          clear hss
                          generalize byt a j q = y at *
                          generalize byt b j q = z at *
                          have hlb4 := HM4.out
                          go_wp2_with fail
                          refine start_ (n := 19) (S := fun w' => w'.cell? (ad.add j) = some (.slice (some ai) lb cj) ∧ w'.cell? (bd.add j) = some (.slice (some bi) lb dj) ∧ w'.cell? (ai.add q) = some (.int .u8 (y : Int)) ∧ w'.cell? (bi.add q) = some (.int .u8 (z : Int))) (ds := [18]) #[false, false, false, false, false, false, false, false, false, false, false, false, false, false, false, false, false, false, false] (by kernel_rfl) rfl rfl ⟨xa, xb, va, vb⟩ (fun hHeld => ?_)
                          refine with_tabW sums4.tab16 sums4.bits16 (fun HT_ HW_ => ?_)
                          refine pure_ (i := 0) (N := some 92) (v := ?_) (a' := ?_) #[true, false, false, false, false, false, false, false, false, false, false, false, false, false, false, false, false, false, false] rfl rfl (any_of HT_.out (by kernel_rfl)) (fun _ _ _ h => h) (Or.inl ⟨by rfl, ?_⟩) ?_ ?_
                          rotate_left
                          · intro w'
                            go_simp
                            with_reducible rfl
                          rotate_left
                          · simp only [Act.put, List.setIfInBounds_toArray, List.set_cons_zero, List.set_cons_succ, i64_w, i32_w]
                            rfl
                          refine pure_ (i := 1) (N := some 93) (v := ?_) (a' := ?_) #[true, true, false, false, false, false, false, false, false, false, false, false, false, false, false, false, false, false, false] rfl rfl (any_of HT_.out (by kernel_rfl)) (fun _ _ _ h => h) (Or.inl ⟨by rfl, ?_⟩) ?_ ?_
                          rotate_left
                          · intro w'
                            go_simp
                            with_reducible rfl
                          rotate_left
                          · simp only [Act.put, List.setIfInBounds_toArray, List.set_cons_zero, List.set_cons_succ, i64_w, i32_w]
                            rfl
                          refine pure_ (i := 2) (N := some 94) (v := ?_) (a' := ?_) #[true, true, true, false, false, false, false, false, false, false, false, false, false, false, false, false, false, false, false] rfl rfl (any_of HT_.out (by kernel_rfl)) (fun _ _ _ h => h) (Or.inl ⟨by rfl, ?_⟩) ?_ ?_
                          rotate_left
                          · intro w'
                            go_simp
                            with_reducible rfl
                          rotate_left
                          · simp only [Act.put, List.setIfInBounds_toArray, List.set_cons_zero, List.set_cons_succ, i64_w, i32_w]
                            rfl
                          refine pure_ (i := 3) (N := some 95) (v := ?_) (a' := ?_) #[true, true, true, true, false, false, false, false, false, false, false, false, false, false, false, false, false, false, false] rfl rfl (any_of HT_.out (by kernel_rfl)) (fun _ _ _ h => h) (Or.inl ⟨by rfl, ?_⟩) ?_ ?_
                          rotate_left
                          · intro w'
                            go_simp
                            with_reducible rfl
                          rotate_left
                          · simp only [Act.put, List.setIfInBounds_toArray, List.set_cons_zero, List.set_cons_succ, i64_w, i32_w]
                            rfl
                          refine pure_ (i := 4) (N := some 96) (v := ?_) (a' := ?_) #[true, true, true, true, true, false, false, false, false, false, false, false, false, false, false, false, false, false, false] rfl rfl (any_of HT_.out (by kernel_rfl)) (fun _ _ _ h => h) (Or.inl ⟨by rfl, ?_⟩) ?_ ?_
                          rotate_left
                          · intro w'
                            go_simp
                            with_reducible rfl
                          rotate_left
                          · simp only [Act.put, List.setIfInBounds_toArray, List.set_cons_zero, List.set_cons_succ, i64_w, i32_w]
                            rfl
                          refine pure_ (i := 6) (N := some 98) (v := ?_) (a' := ?_) #[true, true, true, true, true, false, true, false, false, false, false, false, false, false, false, false, false, false, false] rfl rfl (any_of HT_.out (by kernel_rfl)) (fun _ _ _ h => h) (Or.inl ⟨by rfl, ?_⟩) ?_ ?_
                          rotate_left
                          · intro w'
                            go_simp
                            with_reducible rfl
                          rotate_left
                          · simp only [Act.put, List.setIfInBounds_toArray, List.set_cons_zero, List.set_cons_succ, i64_w, i32_w]
                            rfl
                          refine pure_ (i := 9) (N := some 101) (v := ?_) (a' := ?_) #[true, true, true, true, true, false, true, false, false, true, false, false, false, false, false, false, false, false, false] rfl rfl (any_of HT_.out (by kernel_rfl)) (fun _ _ _ h => h) (Or.inl ⟨by rfl, ?_⟩) ?_ ?_
                          rotate_left
                          · intro w'
                            go_simp
                            with_reducible rfl
                          rotate_left
                          · simp only [Act.put, List.setIfInBounds_toArray, List.set_cons_zero, List.set_cons_succ, i64_w, i32_w]
                            rfl
                          refine pure_ (i := 10) (N := some 102) (v := ?_) (a' := ?_) #[true, true, true, true, true, false, true, false, false, true, true, false, false, false, false, false, false, false, false] rfl rfl (any_of HT_.out (by kernel_rfl)) (fun _ _ _ h => h) (Or.inl ⟨by rfl, ?_⟩) ?_ ?_
                          rotate_left
                          · intro w'
                            go_simp
                            with_reducible rfl
                          rotate_left
                          · simp only [Act.put, List.setIfInBounds_toArray, List.set_cons_zero, List.set_cons_succ, i64_w, i32_w]
                            rfl
                          refine pure_ (i := 11) (N := some 103) (v := ?_) (a' := ?_) #[true, true, true, true, true, false, true, false, false, true, true, true, false, false, false, false, false, false, false] rfl rfl (any_of HT_.out (by kernel_rfl)) (fun _ _ _ h => h) (Or.inl ⟨by rfl, ?_⟩) ?_ ?_
                          rotate_left
                          · intro w'
                            go_simp
                            with_reducible rfl
                          rotate_left
                          · simp only [Act.put, List.setIfInBounds_toArray, List.set_cons_zero, List.set_cons_succ, i64_w, i32_w]
                            rfl
                          refine pure_ (i := 13) (N := some 105) (v := ?_) (a' := ?_) #[true, true, true, true, true, false, true, false, false, true, true, true, false, true, false, false, false, false, false] rfl rfl (any_of HT_.out (by kernel_rfl)) (fun _ _ _ h => h) (Or.inl ⟨by rfl, ?_⟩) ?_ ?_
                          rotate_left
                          · intro w'
                            go_simp
                            with_reducible rfl
                          rotate_left
                          · simp only [Act.put, List.setIfInBounds_toArray, List.set_cons_zero, List.set_cons_succ, i64_w, i32_w]
                            rfl
                          refine take_ (i := 5) (N := some 97) (v := ?_) (a' := ?_) #[true, true, true, true, true, true, true, false, false, true, true, true, false, true, false, false, false, false, false] rfl rfl (take_ofW HT_.out HW_.out (by kernel_rfl)) (fun _ _ _ h => h) (Or.inl ⟨by rfl, ?_⟩) hHeld ?_ ?_
                          rotate_left
                          · rintro w' ⟨s0, s1, s2, s3⟩
                            go_simp
                            with_reducible rfl
                          rotate_left
                          · simp only [Act.put, List.setIfInBounds_toArray, List.set_cons_zero, List.set_cons_succ, i64_w, i32_w]
                            rfl
                          refine pure_ (i := 7) (N := some 99) (v := ?_) (a' := ?_) #[true, true, true, true, true, true, true, true, false, true, true, true, false, true, false, false, false, false, false] rfl rfl (any_of HT_.out (by kernel_rfl)) (fun _ _ _ h => h) (Or.inl ⟨by rfl, ?_⟩) ?_ ?_
                          rotate_left
                          · intro w'
                            go_simp
                            with_reducible rfl
                          rotate_left
                          · simp only [Act.put, List.setIfInBounds_toArray, List.set_cons_zero, List.set_cons_succ, i64_w, i32_w]
                            rfl
                          refine take_ (i := 8) (N := some 100) (v := ?_) (a' := ?_) #[true, true, true, true, true, true, true, true, true, true, true, true, false, true, false, false, false, false, false] rfl rfl (take_ofW HT_.out HW_.out (by kernel_rfl)) (fun _ _ _ h => h) (Or.inl ⟨by rfl, ?_⟩) hHeld ?_ ?_
                          rotate_left
                          · rintro w' ⟨s0, s1, s2, s3⟩
                            go_simp
                            with_reducible rfl
                          rotate_left
                          · simp only [Act.put, List.setIfInBounds_toArray, List.set_cons_zero, List.set_cons_succ, i64_w, i32_w]
                            rfl
                          refine take_ (i := 12) (N := some 104) (v := ?_) (a' := ?_) #[true, true, true, true, true, true, true, true, true, true, true, true, true, true, false, false, false, false, false] rfl rfl (take_ofW HT_.out HW_.out (by kernel_rfl)) (fun _ _ _ h => h) (Or.inl ⟨by rfl, ?_⟩) hHeld ?_ ?_
                          rotate_left
                          · rintro w' ⟨s0, s1, s2, s3⟩
                            go_simp
                            with_reducible rfl
                          rotate_left
                          · simp only [Act.put, List.setIfInBounds_toArray, List.set_cons_zero, List.set_cons_succ, i64_w, i32_w]
                            rfl
                          refine pure_ (i := 14) (N := some 106) (v := ?_) (a' := ?_) #[true, true, true, true, true, true, true, true, true, true, true, true, true, true, true, false, false, false, false] rfl rfl (any_of HT_.out (by kernel_rfl)) (fun _ _ _ h => h) (Or.inl ⟨by rfl, ?_⟩) ?_ ?_
                          rotate_left
                          · intro w'
                            go_simp
                            with_reducible rfl
                          rotate_left
                          · simp only [Act.put, List.setIfInBounds_toArray, List.set_cons_zero, List.set_cons_succ, i64_w, i32_w]
                            rfl
                          refine take_ (i := 15) (N := some 107) (v := ?_) (a' := ?_) #[true, true, true, true, true, true, true, true, true, true, true, true, true, true, true, true, false, false, false] rfl rfl (take_ofW HT_.out HW_.out (by kernel_rfl)) (fun _ _ _ h => h) (Or.inl ⟨by rfl, ?_⟩) hHeld ?_ ?_
                          rotate_left
                          · rintro w' ⟨s0, s1, s2, s3⟩
                            go_simp
                            with_reducible rfl
                          rotate_left
                          · simp only [Act.put, List.setIfInBounds_toArray, List.set_cons_zero, List.set_cons_succ, i64_w, i32_w]
                            rfl
                          refine pure_ (i := 16) (N := some 108) (v := ?_) (a' := ?_) #[true, true, true, true, true, true, true, true, true, true, true, true, true, true, true, true, true, false, false] rfl rfl (any_of HT_.out (by kernel_rfl)) (fun _ _ _ h => h) (Or.inl ⟨by rfl, ?_⟩) ?_ ?_
                          rotate_left
                          · intro w'
                            go_simp
                            with_reducible rfl
                          rotate_left
                          · simp only [Act.put, List.setIfInBounds_toArray, List.set_cons_zero, List.set_cons_succ, i64_w, i32_w]
                            rfl
                          refine pure_ (i := 17) (N := some 109) (v := ?_) (a' := ?_) #[true, true, true, true, true, true, true, true, true, true, true, true, true, true, true, true, true, true, false] rfl rfl (any_of HT_.out (by kernel_rfl)) (fun _ _ _ h => h) (Or.inl ⟨by rfl, ?_⟩) ?_ ?_
                          rotate_left
                          · intro w'
                            go_simp
                            with_reducible rfl
                          rotate_left
                          · simp only [Act.put, List.setIfInBounds_toArray, List.set_cons_zero, List.set_cons_succ, i64_w, i32_w]
                            rfl
                          refine last_ (i := 18) (N := none) #[true, true, true, true, true, true, true, true, true, true, true, true, true, true, true, true, true, true, true] rfl rfl (one_of HT_.out (by kernel_rfl)) (by decide) (fun K hK => ?_)
                          refine skip_ (w1 := ?_) (by rfl) rfl ?_ ?_
                          rotate_left
                          · go_simp
                            rfl
                          refine hK.out _ _ ?_
                          clear hK K
                          refine done_ (done_of HT_.out (by kernel_rfl)) ?_
                          go_wp2_with fail
                          go_roundw
                          case measure => simp [intOf]; omega
                          case rel => exact ⟨q + 1, by omega, by go_num, ⟨HO2.out _ HO.out⟩, ⟨Kd.R_far (p := ⟨g, q, none⟩) (Kd.R_drew HS.out) (fun k hk => hk.2) _⟩, ⟨below_set (below_drew HB.out) HWG.out⟩⟩
                        · obtain rfl : q = lb := by omega
                          have hqi : decide ((q : Int) < (q : Int)) = false := decide_eq_false (by omega)
                          have HO3 := Aside0.mk (HO.out.same (g := fun x => byt a j x ^^^ byt b j x) (fun p hp => by rw [if_pos hp]))
                          clear HO
                          have hjk2 := HJK.out
                          go_wp2_with (first | ((with_reducible refine gate_builtin (b := .append) (xs := #[.tmp 110, .tmp 112]) rfl ?_); at_builtin; refine Kd.R_append KR (w0 := w) w.heap.size rfl (.tmp 110) (.tmp 112) 22 25 (.slice none 0 0) 24 rfl Try.underlying22 Go.Proofs.Ytjolnjckgoilpaa.PRa.info25 rfl (by decide) (by omega) u6 (sumL a b q j) (rowL q fun x => byt a j x ^^^ byt b j x) [.slice (some ⟨g, 0, none⟩) q q] (fun _ => True) (fun k => k = g) rfl rfl ?aP ?aK ?aF ?aO ?aB ?aS ?aL ?_; (case aP => exact ⟨_, rfl, rowAt_R HO3.out HWG.out (by have := HM4.out; omega) rfl⟩); (case aK => exact (fun k hk => ⟨trivial, fun e => HS.out.1 k e.symm |>.2 hk⟩)); (case aF => exact (fun _ _ => trivial)); (case aO => exact Kd.R_mono HS.out (fun _ _ => trivial)); (case aB => exact HB.out); (case aS => exact HB.out.size); (case aL => rw [sumL_length]; have := HJK.out; omega); intro v1 w4 ho hb hg hat; rw [← sumL_succ] at ho; have HO4 := Aside0.mk ho; have HB4 := Aside0.mk hb; clear ho hb hg hat))
                          go_roundw
                          case measure => simp [intOf]; have := HJK.out; omega
                          case rel => exact ⟨j + 1, by have := HJK.out; omega, by go_num, ⟨fun p hp => if h : p < j then HL.out p h else (by obtain rfl : p = j := (by omega); exact ⟨HLa.out, HLb.out⟩)⟩, HO4, HB4⟩
                    · have f2 : ((lb : Int) != (m : Int)) = true := by simp; omega
                      go_quiet (fail)
                      go_wp2_with fail
                      go_ret
                      exact ⟨rfl, pw_below_drewN HB.out nq⟩
                  · have f1 : ((la : Int) != (m : Int)) = true := by simp; omega
                    go_quiet (fail)
                    go_wp2_with fail
                    go_ret
                    exact ⟨rfl, pw_below_drewN HB.out nq⟩
                · obtain rfl : j = kb := by omega
                  go_wp2_with fail
                  have hkk : decide ((j : Int) < (j : Int)) = false := decide_eq_false (by omega)
                  have HN := Aside0.mk (fun (W : World) => (by refine (new10 W (j : Int)).mono ?_; rintro e w' ⟨hb, h⟩; rw [if_pos (by omega)] at h; obtain ⟨g, rfl, hg, hc⟩ := h; exact ⟨g, rfl, hc, hb⟩ : Calls Try.prog 10 #[.int .i64 j] W fun e w' => ∃ g, e = .returned (.tuple #[.pointer (some ⟨g, 0, none⟩), .int .i64 0]) ∧ CodeAt w' g j ∧ Below W.heap.size W w'))
                  have HP := Aside0.mk (fun (W : World) (g : Nat) (hc : CodeAt W g j) (l : List (List Int)) (A : Option Addr) (d : Nat) (hL : KR.C W A j l) (hl : l.length = j) (hd : j ≤ d) (ok : okB l = true) (hm : ∀ i, i < j → (row l i).length = m) => parity11_ok W g j hc h1 h2 A d l hL hl hd m (by have := HM4.out; omega) ok hm (sizes_rows (by rw [hl]; exact hm)) (miss_rows HM1.out (by rw [hl]; exact hm)))
                  obtain ⟨As, cs, eS, hcs, hS⟩ := Kd.R_reads HS.out
                  subst eS
                  rw [sumL_length] at hcs hS ⊢
                  have HSC := Aside0.mk hS
                  have HCS := Aside0.mk hcs
                  clear hcs hS HS
                  go_wp2_with (first
                    | (go_at_call 10; refine Calls.mono (HN.out _) ?_; rintro e w4 ⟨gc, rfl, hc, hb⟩; have HC4 := Aside0.mk hc; have HB4 := Aside0.mk (below_then HB.out HB.out.size hb); have HS4 := Aside0.mk (Kd.C_below HSC.out hb); clear hc hb HB HSC HN)
                    | (go_at_call 11; refine Calls.mono (HP.out _ gc HC4.out a _ _ (Kd.C_below HA.out HB4.out) HKA.out HCA.out OKa.out (fun i hi => (HL.out i hi).1)) ?_; rintro e w5 ⟨pb, p0, p1, rfl, hp⟩; have HP5 := Aside0.mk hp; have HB5 := Aside0.mk (below_then HB4.out HB4.out.size hp.below); have HC5 := Aside0.mk (HC4.out.below hp.below); have HS5 := Aside0.mk (Kd.C_below HS4.out hp.below); clear hp HC4 HS4 HB4)
                    | (go_at_call 11; refine Calls.mono (HP.out _ gc HC5.out b _ _ (Kd.C_below HBB.out HB5.out) HKB.out HCB.out OKb.out (fun i hi => (HL.out i hi).2)) ?_; rintro e w6 ⟨qb, q0, q1, rfl, hp⟩; have HP6 := Aside0.mk hp; have HB6 := Aside0.mk (below_then HB5.out HB5.out.size hp.below); have HC6 := Aside0.mk (HC5.out.below hp.below); have HS6 := Aside0.mk (Kd.C_below HS5.out hp.below); clear hp HC5 HS5)
                    | (go_at_call 11; refine Calls.mono (HP.out _ gc HC6.out (sumL a b m j) _ _ HS6.out (sumL_length _ _ _ _) HCS.out (sumL_ok OKa.out OKb.out _ _) (fun i hi => by rw [sumL_row hi]; exact rowL_length _ _)) ?_; rintro e w7 ⟨rb, r0, r1, rfl, hp⟩; have HP7 := Aside0.mk hp; have HB7 := Aside0.mk (below_then HB6.out HB6.out.size hp.below); clear hp HC6 HS6))
                  have HXF := Aside0.mk (fun (t : Nat) => tcol_first OKa.out j t)
                  have HXS := Aside0.mk (fun (r t : Nat) (ht : t < m) => tcol_sum OKa.out OKb.out r m j t ht)
                  have HLT := Aside0.mk (fun (r : Nat) (l : List (List Int)) (t : Nat) => tcol_lt (ρ := rho r) (l := l) (fun i => GfM.g_lt _) j t)
                  have HSL := Aside0.mk (fun (i t : Nat) => sx_lt i (fun q => byt a q t) (fun q _ => (okB_at OKa.out q t).1))
                  have c6 : ∀ W, Below w7.heap.size w7 W → Below w5.heap.size w5 W ∧ Below w6.heap.size w6 W := fun W hW => ⟨below_then (below_then HP6.out.below HP6.out.below.size HP7.out.below) (by have := HP6.out.below.size; have := HP7.out.below.size; omega) hW, below_then HP7.out.below HP7.out.below.size hW⟩
                  have HC6 := Aside0.mk c6
                  have HLL := Aside0.mk (fun (q : Nat) (hq : q < j) => (HL.out q hq).1)
                  clear c6 hkk HL HP HCS HB6 HKB HCB HKA HCA
                  go_loopw [18] (fun i W => ∃ (t : Nat), t ≤ m ∧ i = .int .i64 t ∧ Aside0 (Below w7.heap.size w7 W)) (fun i _ => m - (intOf i).toNat)
                  case atStart => exact ⟨0, Nat.zero_le _, rfl, ⟨Below.refl _ _⟩⟩
                  case round =>
                    obtain ⟨t, ht, rfl, HB⟩ := hrel
                    have HBw := Aside0.mk (below_then HB7.out HB7.out.size HB.out)
                    have x0 := pw_cell_below HBw.out HX0.out
                    have hj0 : (0 : Int) < (j : Int) := by omega
                    by_cases htm : t < m
                    · clear ht
                      have hti : decide ((t : Int) < (m : Int)) = true := decide_eq_true (by omega)
                      have ht0 : (0 : Int) ≤ (t : Int) := by omega
                      have ht1 : (t : Int) < (m : Int) := by omega
                      go_wp2_with fail
                      clear x0
                      go_loopw [19, 20] (fun x i W => ∃ (q : Nat), q ≤ j ∧ i = .int .i64 q ∧ x = .int .u8 ((sx q (fun p => byt a p t) : Nat) : Int) ∧ Aside0 (Below w7.heap.size w7 W)) (fun _ i _ => j - (intOf i).toNat)
                      case atStart => exact ⟨0, Nat.zero_le _, rfl, rfl, HB⟩
                      case round =>
                        clear HB HBw
                        obtain ⟨q, hq, rfl, rfl, HB⟩ := hrel
                        have HBw := Aside0.mk (below_then HB7.out HB7.out.size HB.out)
                        by_cases hqj : q < j
                        · clear hq
                          obtain ⟨ad', Aj, cj, eA, xa, la, ia⟩ := rows_at HA.out (i := q) hqj
                          obtain rfl : ad = ad' := by injection eA
                          obtain ⟨ai, eI, va⟩ := byte_at (r := row a q) ia (j := t) (by rw [(HLL.out q hqj)]; exact htm)
                          subst eI
                          have hba := okB_at OKa.out q t
                          rw [hba.2] at va
                          replace va := pw_cell_below HBw.out va
                          rw [HLL.out q hqj] at xa
                          replace xa := pw_cell_below HBw.out xa
                          have hxr : Go.bits .xor .u8 ((sx q (fun p => byt a p t) : Nat) : Int) ((byt a q t : Nat) : Int) = ((sx (q + 1) (fun p => byt a p t) : Nat) : Int) := xor_nat _ _ (HSL.out q t) hba.1
                          have hqi : decide ((q : Int) < (j : Int)) = true := decide_eq_true (by omega)
                          have hq0 : (0 : Int) ≤ (q : Int) := by omega
                          have hq1 : (q : Int) < (j : Int) := by omega
                          clear ia la eA hba
                          obtain ⟨y, hy⟩ : ∃ y, sx (q + 1) (fun p => byt a p t) = y := ⟨_, rfl⟩
                          rw [hy] at hxr
                          have HY := Aside0.mk hy
                          clear hy
                          generalize sx q (fun p => byt a p t) = y0 at *
                          generalize byt a q t = z at *
                          go_wp2_with fail
                          go_roundw
                          case measure => simp [intOf]; omega
                          case rel => exact ⟨q + 1, by omega, by go_num, by rw [HY.out], HB⟩
                        · obtain rfl : q = j := by omega
                          have hqi : decide ((q : Int) < (q : Int)) = false := decide_eq_false (by omega)
                          have hB5 := (HC6.out _ HB.out).1
                          have hB6 := (HC6.out _ HB.out).2
                          have cp0 : wr.cell? ⟨pb, 0, none⟩ = some (.slice (some ⟨p0, 0, none⟩) m m) := pw_cell_below hB5 (by rw [cell_of_row w5 pb 0 _ 25 (0, 0) HP5.out.top]; rfl)
                          have cp1 : wr.cell? ⟨pb, 1, none⟩ = some (.slice (some ⟨p1, 0, none⟩) m m) := pw_cell_below hB5 (by rw [cell_of_row w5 pb 1 _ 25 (0, 0) HP5.out.top]; rfl)
                          have cq0 : wr.cell? ⟨qb, 0, none⟩ = some (.slice (some ⟨q0, 0, none⟩) m m) := pw_cell_below hB6 (by rw [cell_of_row w6 qb 0 _ 25 (0, 0) HP6.out.top]; rfl)
                          have cq1 : wr.cell? ⟨qb, 1, none⟩ = some (.slice (some ⟨q1, 0, none⟩) m m) := pw_cell_below hB6 (by rw [cell_of_row w6 qb 1 _ 25 (0, 0) HP6.out.top]; rfl)
                          have cr0 : wr.cell? ⟨rb, 0, none⟩ = some (.slice (some ⟨r0, 0, none⟩) m m) := pw_cell_below HB.out (by rw [cell_of_row w7 rb 0 _ 25 (0, 0) HP7.out.top]; rfl)
                          have cr1 : wr.cell? ⟨rb, 1, none⟩ = some (.slice (some ⟨r1, 0, none⟩) m m) := pw_cell_below HB.out (by rw [cell_of_row w7 rb 1 _ 25 (0, 0) HP7.out.top]; rfl)
                          have vp0 := pw_cell_below hB5 (HP5.out.row0.cell htm)
                          have vp1 := pw_cell_below hB5 (HP5.out.row1.cell htm)
                          have vq0 := pw_cell_below hB6 (HP6.out.row0.cell htm)
                          have vq1 := pw_cell_below hB6 (HP6.out.row1.cell htm)
                          have vr0 := pw_cell_below HB.out (HP7.out.row0.cell htm)
                          have vr1 := pw_cell_below HB.out (HP7.out.row1.cell htm)
                          have e0 := xor_nat _ _ (HLT.out 0 a t) (HLT.out 0 b t)
                          have e1 := xor_nat _ _ (HLT.out 1 a t) (HLT.out 1 b t)
                          rw [HXS.out 0 t htm] at e0
                          rw [HXS.out 1 t htm] at e1
                          rw [HXF.out t] at e0 vp0
                          clear hB5 hB6
                          generalize sx q (fun p => byt a p t) = P0 at *
                          generalize tcol (rho 1) a q t = P1 at *
                          generalize tcol (rho 0) b q t = Q0 at *
                          generalize tcol (rho 1) b q t = Q1 at *
                          generalize tcol (rho 0) (sumL a b m q) q t = R0 at *
                          generalize tcol (rho 1) (sumL a b m q) q t = R1 at *
                          have hm4 := HM4.out
                          have n0 : ((P0 : Int) != (P0 : Int)) = false := by simp
                          have n1 : ((R0 : Int) != (R0 : Int)) = false := by simp
                          have n2 : ((R1 : Int) != (R1 : Int)) = false := by simp
                          go_wp2_with fail
                          go_quiet (fail)
                          go_wp2_with fail
                          go_roundw
                          case measure => simp [intOf]; omega
                          case rel => exact ⟨t + 1, by omega, by go_num, ⟨pw_below_drewN HB.out nq⟩⟩
                    · obtain rfl : t = m := by omega
                      have hti : decide ((t : Int) < (t : Int)) = false := decide_eq_false (by omega)
                      go_wp2_with fail
                      go_ret
                      exact ⟨rfl, HBw.out⟩
      · have d3 : ((kb : Int) != (k : Int)) = true := by simp; omega
        go_wp2_with (first | (go_at_call 8; refine Calls.mono (HK.out _) ?_; rintro e w1 ⟨rfl, hb⟩; have HB := Aside0.mk hb; clear hb))
        go_ret
        exact ⟨rfl, HB.out⟩
    · have d1 : decide ((k : Int) < 1) = false := decide_eq_false (by omega)
      have d2 : decide ((32 : Int) < (k : Int)) = true := decide_eq_true (by omega)
      go_wp2_with (first | (go_at_call 8; refine Calls.mono (HK.out _) ?_; rintro e w1 ⟨rfl, hb⟩; have HB := Aside0.mk hb; clear hb))
      go_ret
      exact ⟨rfl, HB.out⟩
  · have d1 : decide ((k : Int) < 1) = true := decide_eq_true (by omega)
    go_wp2_with (first | (go_at_call 8; refine Calls.mono (HK.out _) ?_; rintro e w1 ⟨rfl, hb⟩; have HB := Aside0.mk hb; clear hb))
    go_ret
    exact ⟨rfl, HB.out⟩
theorem len_sum (l : List (List Int)) : l.length ≤ (l.map fun r => r.length + 1).sum ∧ (l.map List.length).sum ≤ (l.map fun r => r.length + 1).sum := by
  induction l with
  | nil => simp
  | cons a l ih => simp only [List.map_cons, List.sum_cons, List.length_cons]; omega
/-- The law, as its frame wants it. -/
theorem rsSums_calls (A0 : Option Addr) (c0 : Nat) (l0 : List (List Int)) (A1 : Option Addr) (c1 : Nat) (l1 : List (List Int)) (r : Bool) (w : World) (hr0 : Kd.C (Kd.slice 5 (Kd.int .u8)) w A0 l0.length l0) (hc0 : l0.length ≤ c0) (hr1 : Kd.C (Kd.slice 5 (Kd.int .u8)) w A1 l1.length l1) (hc1 : l1.length ≤ c1) (h : (okB l0 = true ∧ okB l1 = true) ∧ ((l0.map fun r => r.length + 1).sum ≤ 1048576 ∧ (l1.map fun r => r.length + 1).sum ≤ 1048576) ∧ r = true) :
    Calls Try.prog 4 #[.slice A0 l0.length c0, .slice A1 l1.length c1] w fun e w' => e = .returned (.bool r) ∧ Below w.heap.size w w' := by
  obtain ⟨⟨ok0, ok1⟩, ⟨h0, h1⟩, rfl⟩ := h
  have a0 := len_sum l0
  have a1 := len_sum l1
  exact sums4 w A0 c0 l0 hr0 hc0 A1 c1 l1 hr1 hc1 ok0 ok1 (by omega) (by omega) (by omega) (by omega)
end Go.Proofs.Ytjolnjckgoilpaa.Rs
namespace Go.Proofs.Ytjolnjckgoilpaa.Pure
open Go.Proofs.Ytjolnjckgoilpaa.Gf Go.RowKit
theorem wf_byte {x : Int} (h : (Lit.int .u8 x).wf = true) : 0 ≤ x ∧ x < 256 := by
  obtain ⟨n, hn, rfl⟩ := GaFacts.byte h
  omega
theorem okB_of {l : List (List Int)} (h : ∀ r ∈ l, ∀ x ∈ r, (Lit.int .u8 x).wf = true) : okB l = true := by
  unfold okB
  simp only [List.all_eq_true]
  intro r hr x hx
  have := wf_byte (h r hr x hx)
  simp [this]
theorem RsSums (l0 l1 : List (List Int)) (w0 : ∀ r ∈ l0, ∀ x ∈ r, (Lit.int .u8 x).wf = true) (hb : (l0.map fun r => r.length + 1).sum ≤ 1048576) (w1 : ∀ r ∈ l1, ∀ x ∈ r, (Lit.int .u8 x).wf = true) (hb1 : (l1.map fun r => r.length + 1).sum ≤ 1048576) : (okB l0 = true ∧ okB l1 = true) ∧ ((l0.map fun r => r.length + 1).sum ≤ 1048576 ∧ (l1.map fun r => r.length + 1).sum ≤ 1048576) ∧ true = true := ⟨⟨okB_of w0, okB_of w1⟩, ⟨hb, hb1⟩, rfl⟩
end Go.Proofs.Ytjolnjckgoilpaa.Pure
