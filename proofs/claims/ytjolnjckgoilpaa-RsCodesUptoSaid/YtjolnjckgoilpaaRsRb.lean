/-
  (*rs.Code).Rebuild, where no more than two shards are missing: its walk.
-/
import Derived.Test.YtjolnjckgoilpaaMReb
set_option linter.unusedVariables false
set_option linter.unusedSimpArgs false
namespace Go.Proofs.Ytjolnjckgoilpaa.Rs
open Go.RowKit Go.Proofs.YtjolnjckgoilpaaW.PrintWords Go.Proofs.YtjolnjckgoilpaaW.PrintLast Go.Proofs.YtjolnjckgoilpaaW.PrintMore Go.Proofs.Ytjolnjckgoilpaa.PRa Go.Proofs.Ytjolnjckgoilpaa.Gf
def rebuild12.T9 : Bool × List (List Nat × List Nat) := (true, [([], []), ([], []), ([1], [1]), ([2], [2]), ([0, 3, 2], [0, 3]), ([4, 4, 0, 1, 2, 3, 4], [4])])
def rebuild12.B9 : List Nat := [0, 0, 2, 6, 15, 31]
theorem rebuild12.tab9 : rtab .any (opsOf Try.f12 9) = rebuild12.T9 := by kernel_rfl
theorem rebuild12.bits9 : waitsOk rebuild12.T9.2 rebuild12.B9 = true := by kernel_rfl
def rebuild12.T34 : Bool × List (List Nat × List Nat) := (true, [([], []), ([], []), ([], []), ([2], [2]), ([3], [3]), ([], []), ([4, 5], [4, 5]), ([0, 1, 0, 1, 2, 3, 4, 5, 6], [0, 1]), ([7, 6, 6, 0, 1, 2, 3, 4, 5, 6], [6, 7])])
def rebuild12.B34 : List Nat := [0, 0, 0, 4, 12, 0, 60, 127, 255]
theorem rebuild12.tab34 : rtab .any (opsOf Try.f12 34) = rebuild12.T34 := by kernel_rfl
theorem rebuild12.bits34 : waitsOk rebuild12.T34.2 rebuild12.B34 = true := by kernel_rfl
set_option maxHeartbeats 32000000 in
set_option maxRecDepth 100000 in
theorem rebuild12 (w : World) (g k : Nat) (hc : CodeAt w g k) (hk : 1 ≤ k) (hk2 : k ≤ 32) (B : Option Addr) (d : Nat) (l : List (List Int)) (n : Nat) (hL : KR.C w B n l) (hn : n = k + 2) (hd : n ≤ d) (m : Nat) (hm0 : 0 < m) (hm9 : m ≤ 1000000) (hok : okB l = true) (hm : ∀ i, i < n → pres l i → (row l i).length = m) (hs : sizesB 0 l = true) (hlost : (missL l).length ≤ 2) (bk : List (List Int)) (hinv : invF (partL l n k) = some (bk, 0)) (ρ : Nat → Nat → Nat) (hρ : ∀ i q, ρ i q < 256) (hbk : bk.length = k) (htm : ∀ i, i < n → ¬ pres l i → timesF [row (allR k) i] bk = some ([rowL k (ρ i)], 0)) :
    Calls Try.prog 12 #[.pointer (some ⟨g, 0, none⟩), .slice B n d] w (RebQ w n m (rebL l n k m ρ)) := by
  have HINV := Aside0.mk hinv
  have HRHO := Aside0.mk hρ
  have HBK := Aside0.mk hbk
  have HTM := Aside0.mk htm
  clear hinv hρ hbk htm
  have hl : l.length = n := Kd.C_len hL
  have hw2 : wrap64 ((k : Int) + 2) = (k : Int) + 2 := by unfold wrap64; omega
  have HA := Aside0.mk (fun (W : World) (hW : Below w.heap.size w W) => (by have := alike23 W ((k : Int) + 2) B d l (by rw [hl]; exact Kd.C_below hL hW) (by omega); rw [hl] at this; refine this.mono ?_; rintro e w' ⟨h, h2⟩; rw [if_pos ⟨by omega, hs⟩] at h; exact ⟨h, h2⟩ : Calls Try.prog 23 #[.int .i64 ((k : Int) + 2), .slice B n d] W fun e w' => e = .returned (.tuple #[]) ∧ w' = W))
  have HM := Aside0.mk (fun (W : World) (hW : Below w.heap.size w W) => (by have := missing24 W B d l (by rw [hl]; exact Kd.C_below hL hW) (by omega) (by omega); rw [hl] at this; exact this : Calls Try.prog 24 #[.slice B n d] W fun e w' => ∃ B' d', e = .returned (.slice B' (missL l).length d') ∧ Kd.R (Kd.int .i64) 3 w' W.heap.size (fun _ => True) (.slice B' (missL l).length d') (missL l) ∧ Below W.heap.size W w'))
  obtain ⟨ad, _, _, eB, _⟩ := rows_at hL (i := 0) (by omega)
  subst eB
  obtain ⟨hsI, hI1, hI2⟩ := KH_of_KR hL
  have HI1 := Aside0.mk hI1
  have HI2 := Aside0.mk hI2
  have HC := Aside0.mk hc
  have HL := Aside0.mk hL
  have HLN := Aside0.mk hl
  have HMM := Aside0.mk hm
  have HOK := Aside0.mk hok
  obtain ⟨Ac, cc, hg, hcc2, hCC⟩ := hc
  have cg : w.cell? ⟨g, 0, none⟩ = some (.int .i64 k) := by rw [cell_of_row w g 0 _ 48 (0, 0) hg]; rfl
  have HCG := Aside0.mk cg
  have HC1 := Aside0.mk (show w.cell? ⟨g, 1, none⟩ = some (.slice Ac 2 cc) by rw [cell_of_row w g 1 _ 48 (0, 0) hg]; rfl)
  obtain ⟨hsP, hP1, hP2⟩ := KH_of_KR hCC
  have HP1 := Aside0.mk hP1
  have HP2 := Aside0.mk hP2
  have hgl : g < w.heap.size := heap_lt hg
  have hZ := Two.start w
  replace cg := pw_cell_below hZ.below cg
  have HZ := Aside0.mk hZ
  unfold two at HZ cg
  have HNK := Aside0.mk hn
  have HDN := Aside0.mk hd
  obtain ⟨q, hq⟩ : ∃ q, (missL l).length = q := ⟨_, rfl⟩
  rw [hq] at HM hlost
  have HQL := Aside0.mk hq
  have HQ2 := Aside0.mk hlost
  have hqd : decide ((2 : Int) < (q : Int)) = false := decide_eq_false (by omega)
  have hmf : ∀ (fn : Fn) (first cap : Array Value) (w : World), (Instr.makeFunc fn first cap).run Try.prog w = .ok (.func fn first cap) w := fun _ _ _ _ => rfl
  clear hI1 hI2 hP1 hP2 hL hg hCC hZ hm hok hs hl hn hd hq hlost
  go_enter_defers Try.func12, Try.ntmps12
  go_wp2_with (first
    | (go_at_call 23; refine Calls.mono (HA.out _ HZ.out.below) ?_; rintro e w1 ⟨rfl, rfl⟩)
    | (go_at_call 24; refine Calls.mono (HM.out _ HZ.out.below) ?_; rintro e w2 ⟨B', d', rfl, hR2, hb2⟩; have HZ2 := Aside0.mk (HZ.out.then_ hb2); have HMI := Aside0.mk (Kd.R_lower hR2 HZ.out.below.size); clear hR2 hb2 cg HZ))
  clear hqd hw2
  go_loopw [40] (fun i W => ∃ (j : Nat) (v0 : Value) (hs : List Hd), j ≤ n ∧ i = .int .i64 j ∧ Aside0 (Two w W v0 (.int .i64 0)) ∧ Aside0 (KH.R 25 W w.heap.size (fun _ => True) v0 hs) ∧ Aside0 (Outs W w.heap.size j m (pres l) hs (row l)) ∧ Aside0 (Kd.R (Kd.int .i64) 3 W w.heap.size (fun _ => True) (.slice B' q d') (missL l))) (fun i _ => n - (intOf i).toNat)
  case atStart => exact ⟨0, _, [], Nat.zero_le _, rfl, HZ2, ⟨Kd.R_nil _ _ _ _ _⟩, ⟨Outs.nil _ _ _ _ _⟩, HMI⟩
  case round =>
    clear HZ2 HMI
    obtain ⟨j, v0, hs, hj, rfl, HZ, HH, HO, HMI⟩ := hrel
    by_cases hjn : j < n
    · clear hj
      obtain ⟨ad', Aj, cj, eA, xa, la, ia⟩ := rows_at HL.out (i := j) hjn
      obtain rfl : ad = ad' := by injection eA
      replace xa := pw_cell_below HZ.out.below xa
      have hji : decide ((j : Int) < (n : Int)) = true := decide_eq_true (by omega)
      have hj0 : (0 : Int) ≤ (j : Int) := by omega
      have hj1 : (j : Int) < (n : Int) := by omega
      have HCl := Aside0.mk (fun (W : World) (hW : Below w.heap.size w W) => clone28 W Aj cj (row l j) (Kd.C_below ia hW) la (by
        by_cases h : (row l j).length = 0
        · omega
        · have := HMM.out j hjn h; omega))
      clear ia la eA
      have c0 := HZ.out.c0
      have HJN := Aside0.mk hjn
      have hn9 : n ≤ 34 := by have := HNK.out; omega
      obtain ⟨Av, cv, ev, _⟩ := Kd.R_reads HH.out
      have HEV := Aside0.mk ev
      rw [HO.out.len] at ev
      subst ev
      obtain ⟨lj, hlj⟩ : ∃ lj, (row l j).length = lj := ⟨_, rfl⟩
      rw [hlj] at xa HCl
      have HLJ := Aside0.mk hlj
      clear hlj
      go_wp2_with fail
      refine wp_normal ?_
      refine start_ (n := 6) (S := fun w' => w'.cell? ⟨w.heap.size, 0, none⟩ = some (.slice Av j cv)) (ds := [5]) #[false, false, false, false, false, false] (by kernel_rfl) rfl rfl (c0) (fun hHeld => ?_)
      refine with_tabW rebuild12.tab9 rebuild12.bits9 (fun HT_ HW_ => ?_)
      refine pure_ (i := 1) (N := some 45) (v := ?_) (a' := ?_) #[false, true, false, false, false, false] rfl rfl (any_of HT_.out (by kernel_rfl)) (fun _ _ _ h => h) (Or.inl ⟨by rfl, ?_⟩) ?_ ?_
      rotate_left
      · intro w'
        go_simp
        with_reducible rfl
      rotate_left
      · simp only [Act.put, List.setIfInBounds_toArray, List.set_cons_zero, List.set_cons_succ, i64_w, i32_w]
        rfl
      refine take_ (i := 0) (N := some 44) (v := ?_) (a' := ?_) #[true, true, false, false, false, false] rfl rfl (take_ofW HT_.out HW_.out (by kernel_rfl)) (fun _ _ _ h => h) (Or.inl ⟨by rfl, ?_⟩) hHeld ?_ ?_
      rotate_left
      · intro w' s0
        go_simp
        with_reducible rfl
      rotate_left
      · simp only [Act.put, List.setIfInBounds_toArray, List.set_cons_zero, List.set_cons_succ, i64_w, i32_w]
        rfl
      refine one_ (i := 2) (N := some 46) #[true, true, true, false, false, false] rfl rfl (one_of HT_.out (by kernel_rfl)) (by decide) (fun K hK => ?_)
      refine goes_ Try.func28 (by kernel_rfl) rfl #[.slice Aj lj cj] (by rfl) rfl rfl (by simp only [List.map_toArray, List.map_cons, List.map_nil]; rfl) ?_
      refine Calls.mono (HCl.out _ (below_drew HZ.out.below)) ?_
      rintro e w2 ⟨v2, rfl, hv2, hb2⟩
      refine ⟨_, rfl, ?_⟩
      obtain ⟨A2, c2, ev2, hl2, _⟩ := Kd.R_reads hv2
      rw [HLJ.out] at ev2
      subst ev2
      have hz2_ := HZ.out.below.size
      have hz2 := (HZ.out.then_ (below_drew (Below.refl wr.heap.size wr))).then_ hb2
      have hh2 := Kd.R_below (Kd.R_drew HH.out) hb2
      refine hK.out _ _ (pw_cell_below hb2 hHeld) (fun hHeld => ?_)
      clear hK K
      refine norm_ (a' := ?_) ?_ ?_
      rotate_left
      · show Act.put _ (some 46) _ = _
        simp only [Act.put, List.setIfInBounds_toArray, List.set_cons_zero, List.set_cons_succ, i64_w, i32_w]
        rfl
      refine one_ (i := 3) (N := some 47) #[true, true, true, true, false, false] rfl rfl (one_of HT_.out (by kernel_rfl)) (by decide) (fun K hK => ?_)
      refine value_ (w1 := ?_) (v := ?_) (by rfl) rfl ?_ ?_
      rotate_left 2
      · go_simp
        constructor
        · rfl
        · rfl
      refine hK.out _ _ (pw_cell_below (below1 _ _) hHeld) (fun hHeld => ?_)
      clear hK K
      refine norm_ (a' := ?_) ?_ ?_
      rotate_left
      · show Act.put _ (some 47) _ = _
        simp only [Act.put, List.setIfInBounds_toArray, List.set_cons_zero, List.set_cons_succ, i64_w, i32_w]
        rfl
      refine one_ (i := 4) (N := some 48) #[true, true, true, true, true, false] rfl rfl (one_of HT_.out (by kernel_rfl)) (by decide) (fun K hK => ?_)
      refine Kd.R_append_step KH (w0 := w) w.heap.size (by rfl) (.tmp 44) (.tmp 47) 22 25 (.slice none 0 0) 24 rfl Try.underlying22 Go.Proofs.Ytjolnjckgoilpaa.PRa.info25 rfl (by decide) (by omega) (.slice Av j cv) hs (A2, lj, c2) [.slice A2 lj c2] (fun _ => True) (fun _ => False) rfl rfl rfl (fun _ h => h.elim) (fun _ _ => trivial) hh2 hz2.below hz2.below.size (by rw [HO.out.len]; have := HJN.out; have := HNK.out; omega) ?_
      intro v4 w4 ho4 hb4 hg4 hat4
      obtain ⟨A4, c4, ev4, _⟩ := Kd.R_reads ho4
      rw [List.length_append, HO.out.len, List.length_singleton] at ev4
      subst ev4
      have hz4 := hz2.over hh2 hb4 hg4
      have c4_ := hz4.c0
      have f4_ := hz4.f0
      refine hK.out _ _ (c4_) (fun hHeld => ?_)
      clear hK K
      refine norm_ (a' := ?_) ?_ ?_
      rotate_left
      · show Act.put _ (some 48) _ = _
        simp only [Act.put, List.setIfInBounds_toArray, List.set_cons_zero, List.set_cons_succ, i64_w, i32_w]
        rfl
      refine last_ (i := 5) (N := none) #[true, true, true, true, true, true] rfl rfl (one_of HT_.out (by kernel_rfl)) (by decide) (fun K hK => ?_)
      refine skip_ (w1 := ?_) (by rfl) rfl ?_ ?_
      rotate_left
      · go_simp
        rfl
      refine hK.out _ _ ?_
      clear hK K
      refine done_ (done_of HT_.out (by kernel_rfl)) ?_
      have hO4 := (out_step HLJ.out (HO.out.below (below_drew (Below.refl wr.heap.size wr))) hb2 hv2 hz2_ (HMM.out j HJN.out) hm0).over hh2 hg4
      have hM4 := Kd.R_over (Kd.R_below (Kd.R_drew HMI.out) hb2) hh2 (by simp [KH, Kd.int, Kd.scalar]) hg4
      have HO5 := Aside0.mk (hO4.set hz4.at0 (by decide) 0 (.slice A4 (j + 1) c4))
      have HM5 := Aside0.mk (Kd.R_set hM4 hz4.at0 (by simp [Kd.int, Kd.scalar]) 0 (.slice A4 (j + 1) c4))
      have HH5 := Aside0.mk (Kd.R_set ho4 hz4.at0 (by simp [KH, Kd.scalar]) 0 (.slice A4 (j + 1) c4))
      have HZ5 := Aside0.mk (hz4.set0 (.slice A4 (j + 1) c4))
      clear hO4 hM4 ho4 hb4 hg4 hat4 hz4 c4_ f4_ hv2 hb2 hz2 hh2 hl2 hHeld c0 xa HZ HH HO HMI HCl
      go_wp2_with fail
      go_roundw
      case measure => simp [intOf]; have := HJN.out; omega
      case rel => exact ⟨j + 1, _, _, by have := HJN.out; omega, by go_num, HZ5, HH5, HO5, HM5⟩
    · obtain rfl : j = n := by omega
      have hji : decide ((j : Int) < (j : Int)) = false := decide_eq_false (by omega)
      have c0 := HZ.out.c0
      have c1 := HZ.out.c1
      have f0 := HZ.out.f0
      have f1 := HZ.out.f1
      have cg := pw_cell_below HZ.out.below HCG.out
      obtain ⟨Av, cv, ev, _⟩ := Kd.R_reads HH.out
      rw [HO.out.len] at ev
      subst ev
      by_cases hq0 : q = 0
      · subst hq0
        have HZ1 := Aside0.mk (HZ.out.set0 (.slice Av j cv))
        have HZ2 := Aside0.mk (HZ1.out.set1 (.int .i64 0))
        have c1' := HZ1.out.c1
        have HH1 := Aside0.mk (Kd.R_set (Kd.R_set HH.out HZ.out.at0 (by simp [KH, Kd.scalar]) 0 (.slice Av j cv)) HZ1.out.at1 (by simp [KH, Kd.scalar]) 0 (.int .i64 0))
        have HO1 := Aside0.mk (((HO.out.set HZ.out.at0 (by decide) 0 (.slice Av j cv)).set HZ1.out.at1 (by decide) 0 (.int .i64 0)).congr (P' := fun _ => True) (L' := rebL l j k m ρ) (fun i hi _ => all_there HLN.out (by rw [HQL.out]) i hi) (fun i hi _ => by unfold rebL; rw [if_pos (all_there HLN.out (by rw [HQL.out]) i hi)]))
        go_wp2_with fail
        refine leaves_cons (f := 21) (args := #[.pointer (some ⟨w.heap.size + 1, 0, none⟩), .func (.func 27) #[] #[.pointer (some ⟨w.heap.size, 0, none⟩)]]) (by simp) (by simp [go_sem]) ?_
        refine (told_idle ⟨w.heap.size + 1, 0, none⟩ _ _).mono ?_
        rintro e u' w'' ⟨rfl, rfl, rfl⟩
        have r0 := HZ2.out.c0
        have r1 := HZ2.out.c1
        simp [Leaves, settle, results, Try.results12, go_sem, r0, r1]
        obtain ⟨ob, cap, hf, _⟩ := Kd.R_form HH1.out (by rw [HO1.out.len]; have := HNK.out; omega)
        have hhs : hs.length = j := HO1.out.len
        rw [hhs] at hf
        injection hf with hfa _ hfc
        subst hfa
        subst hfc
        exact ⟨_, _, _, rfl, HH1.out, HO1.out, HZ2.out.below⟩
      · have hqz : ((q : Int) == 0) = false := by simp; omega
        have HU := Aside0.mk (fun (W : World) => unit22 (k : Int) (matrix k k kron) 0 W (by unfold unitF; rw [if_neg (by omega), if_neg (by omega)]; rfl))
        have HZA := HZ
        go_wp2_with (first
          | (go_at_call 29; refine Calls.mono (HU.out _) ?_; rintro e w6 ⟨vU, rfl, hU, hb6⟩
             obtain ⟨hsU, hU1, hU2, hU3⟩ := KH_of_R (Kd.S_R hU)
             have hlU : hsU.length = k := by rw [hU2]; simp [matrix]
             obtain ⟨AU, cU, evU, _⟩ := Kd.R_reads hU1
             rw [hlU] at evU
             subst evU
             have HU1 := Aside0.mk hU1
             have HU3 := Aside0.mk hU3
             have HLU := Aside0.mk hlU
             have HB6 := Aside0.mk hb6
             have cr := pw_cell_below hb6 (pw_cell_below HZ.out.below HC1.out)
             have HP6 := Aside0.mk (Kd.C_below (Kd.C_below HP1.out HZ.out.below) hb6)
             clear hU hU1 hU2 hU3 hlU hb6)
          | ((with_reducible refine gate_builtin (b := .append) (xs := #[.tmp 62, .tmp 66]) rfl ?_); refine Kd.R_append_rows KH (w0 := wr) wr.heap.size rfl (.tmp 62) (.tmp 66) 46 25 (.slice none 0 0) 24 rfl Try.underlying46 Go.Proofs.Ytjolnjckgoilpaa.PRa.info25 rfl (by decide) (by omega) (.slice AU k cU) hsU hsP _ _ _ (fun _ => True) (fun _ => False) rfl rfl HU1.out HP6.out (fun _ _ h => h) (fun _ h => h.elim) (fun _ _ => trivial) HB6.out HB6.out.size (by rw [HLU.out]; omega) ?_
             intro v7 w7 ho hb hg hat
             obtain ⟨A7, c7, ev7, _⟩ := Kd.R_reads ho
             rw [List.length_append, HLU.out, Kd.C_len HP6.out] at ev7
             subst ev7
             have HAA := Aside0.mk (all_at HLU.out (Kd.C_len HP6.out) HU3.out HP2.out HU1.out hg HZ.out.below.size)
             have HB7 := Aside0.mk hb
             have HA7 := Aside0.mk ho
             clear ho hb hg hat HU1 HU3 HLU HB6 cr HP6))
        have HZ7 := Aside0.mk (HZ.out.then_ HB7.out)
        have HH7 := Aside0.mk (Kd.R_below HH.out HB7.out)
        have HO7 := Aside0.mk (HO.out.below HB7.out)
        have HM7 := Aside0.mk (Kd.R_below HMI.out HB7.out)
        clear c0 c1 f0 f1 cg HU HZA hji
        go_loopw [11, 12, 70] (fun r11 r12 i W => ∃ (p : Nat), p ≤ j ∧ i = .int .i64 p ∧ Aside0 ((Kd.int .i64).R 3 W w7.heap.size (fun _ => True) r11 ((selN l p k).map fun (x : Nat) => (x : Int))) ∧ Aside0 (KH.R 25 W w7.heap.size (fun _ => True) r12 ((selN l p k).map fun x => hsI.getD x (none, 0, 0))) ∧ Aside0 (Below w7.heap.size w7 W)) (fun _ _ i _ => j - (intOf i).toNat)
        case atStart => exact ⟨0, Nat.zero_le _, rfl, ⟨by rw [selN_zero]; exact Kd.R_nil _ _ _ _ _⟩, ⟨by rw [selN_zero]; exact Kd.R_nil _ _ _ _ _⟩, ⟨Below.refl _ _⟩⟩
        case round =>
          obtain ⟨p, hp, rfl, HR11, HR12, HB⟩ := hrel
          by_cases hpj : p < j
          · clear hp
            have HBw := Aside0.mk (below_then HZ7.out.below HZ7.out.below.size HB.out)
            obtain ⟨A11, c11, e11, _⟩ := Kd.R_reads HR11.out
            obtain ⟨A12, c12, e12, _⟩ := Kd.R_reads HR12.out
            rw [List.length_map] at e11 e12
            subst e11
            subst e12
            obtain ⟨x, hx⟩ : ∃ x, hsI[p]? = some x := ⟨_, List.getElem?_eq_getElem (by rw [Kd.C_len HI1.out]; exact hpj)⟩
            have hgd : hsI.getD p (none, 0, 0) = x := by rw [List.getD_eq_getElem?_getD, hx]; rfl
            obtain ⟨hx1, hx2, _⟩ := HI2.out.2 p x hx
            have xa : wr.cell? (ad.add p) = some (.slice x.1 x.2.1 x.2.2) := pw_cell_below HBw.out (KH_atA HI1.out hpj hx)
            have cg := pw_cell_below HBw.out HCG.out
            obtain ⟨s, hs_⟩ : ∃ s, (selN l p k).length = s := ⟨_, rfl⟩
            have HSL := Aside0.mk hs_
            have HGD := Aside0.mk hgd
            have HPJ := Aside0.mk hpj
            have HX1 := Aside0.mk hx1
            have hj34 : j ≤ 34 := by have := HNK.out; omega
            have hpi : decide ((p : Int) < (j : Int)) = true := decide_eq_true (by omega)
            have hp0 : (0 : Int) ≤ (p : Int) := by omega
            have hp1 : (p : Int) < (j : Int) := by omega
            have HSK := Aside0.mk (selN_le l p k)
            rw [hs_] at HSK ⊢
            obtain ⟨xA, xn, xc⟩ := x
            dsimp only at hx1 hx2 xa
            clear hs_ hgd hx hx2
            by_cases hpr : pres l p
            · have hxn : 0 < xn := by unfold pres at hpr; omega
              by_cases hsk : s < k
              · have HSY := Aside0.mk (selN_yes (l := l) (j := p) (k := k) hpr (by rw [HSL.out]; exact hsk))
                clear hx1 hpr
                go_wp2_with (first
                  | ((with_reducible refine gate_builtin (b := .append) (xs := #[.tmp 87, .tmp 89]) rfl ?_); at_builtin; refine Kd.R_append (Kd.int .i64) (w0 := w7) w7.heap.size rfl (.tmp 87) (.tmp 89) 32 3 (.int .i64 0) 8 rfl Try.underlying32 Go.Proofs.Ytjolnjckgoilpaa.PRa.info3 rfl (by decide) (by omega) (.slice A11 s c11) ((selN l p k).map fun (x : Nat) => (x : Int)) (p : Int) [.int .i64 p] (fun _ => True) (fun _ => False) rfl rfl rfl (fun _ hk => hk.elim) (fun _ _ => trivial) (by rw [← HSL.out]; exact HR11.out) HB.out HB.out.size (by rw [List.length_map, HSL.out]; omega) ?_
                     intro v8 w8 ho hb hg hat
                     have H12 := Aside0.mk (Kd.R_over (by rw [HSL.out] at HR12; exact HR12.out : KH.R 25 wr w7.heap.size (fun _ => True) (.slice A12 s c12) _) (by rw [HSL.out] at HR11; exact HR11.out : (Kd.int .i64).R 3 wr w7.heap.size (fun _ => True) (.slice A11 s c11) _) (by simp [KH, Kd.scalar]) hg)
                     have H11 := Aside0.mk ho
                     have HB8 := Aside0.mk hb
                     clear ho hb hg hat HR11 HR12 HB)
                  | ((with_reducible refine gate_builtin (b := .append) (xs := #[.tmp 91, .tmp 93]) rfl ?_); at_builtin; refine Kd.R_append KH (w0 := w7) w7.heap.size rfl (.tmp 91) (.tmp 93) 22 25 (.slice none 0 0) 24 rfl Try.underlying22 Go.Proofs.Ytjolnjckgoilpaa.PRa.info25 rfl (by decide) (by omega) (.slice A12 s c12) ((selN l p k).map fun x => hsI.getD x (none, 0, 0)) (xA, xn, xc) [.slice xA xn xc] (fun _ => True) (fun _ => False) rfl rfl rfl (fun _ hk => hk.elim) (fun _ _ => trivial) H12.out HB8.out HB8.out.size (by rw [List.length_map, HSL.out]; omega) ?_
                     intro v9 w9 ho hb hg hat
                     have H11b := Aside0.mk (Kd.R_over H11.out H12.out (by simp [KH, Kd.int, Kd.scalar]) hg)
                     have H12b := Aside0.mk ho
                     have HB9 := Aside0.mk hb
                     clear ho hb hg hat H11 H12 HB8))
                go_roundw
                case measure => simp [intOf]; have := HPJ.out; omega
                case rel => exact ⟨p + 1, by have := HPJ.out; omega, by go_num, by rw [HSY.out, List.map_append]; exact H11b, by rw [HSY.out, List.map_append, List.map_singleton, HGD.out]; exact H12b, HB9⟩
              · have HSY := Aside0.mk (selN_full (l := l) (j := p) (k := k) (by rw [HSL.out]; exact hsk))
                clear hx1 hpr
                go_wp2_with fail
                go_roundw
                case measure => simp [intOf]; have := HPJ.out; omega
                case rel => exact ⟨p + 1, by have := HPJ.out; omega, by go_num, by rw [HSY.out, ← HSL.out]; exact HR11, by rw [HSY.out, ← HSL.out]; exact HR12, HB⟩
            · have hxn : ¬ 0 < xn := by unfold pres at hpr; omega
              have HSY := Aside0.mk (selN_no (l := l) (j := p) (k := k) hpr)
              clear hx1 hpr
              go_wp2_with fail
              go_roundw
              case measure => simp [intOf]; have := HPJ.out; omega
              case rel => exact ⟨p + 1, by have := HPJ.out; omega, by go_num, by rw [HSY.out, ← HSL.out]; exact HR11, by rw [HSY.out, ← HSL.out]; exact HR12, HB⟩
          · obtain rfl : p = j := by omega
            have hpi : decide ((p : Int) < (p : Int)) = false := decide_eq_false (by omega)
            have HBw := Aside0.mk (below_then HZ7.out.below HZ7.out.below.size HB.out)
            have HKL := Aside0.mk (selN_len HLN.out HNK.out (by rw [HQL.out]; exact HQ2.out))
            obtain ⟨A11, c11, e11, _, hC11⟩ := Kd.R_reads HR11.out
            obtain ⟨A12, c12, e12, hle12, hC12⟩ := Kd.R_reads HR12.out
            rw [List.length_map, HKL.out] at e11 e12 hC11 hC12 hle12
            subst e11
            subst e12
            have H11 := Aside0.mk hC11
            have H12 := Aside0.mk hC12
            have HL12 := Aside0.mk hle12
            have cg := pw_cell_below HBw.out HCG.out
            have hmk := make_part k (by omega)
            obtain ⟨_, _, e7, _, hC7⟩ := Kd.R_reads HA7.out
            have hl7 : (hsU ++ hsP).length = k + 2 := HAA.out.len
            rw [hl7] at e7 hC7
            injection e7 with e7a _ e7c
            subst e7a
            have HA7C := Aside0.mk (Kd.C_below hC7 HB.out)
            have HAA8 := Aside0.mk (HAA.out.below HB.out)
            clear hC11 hC12 hle12 hC7 e7c hl7
            obtain ⟨wp, hwp⟩ : ∃ wp, wp = wr := ⟨_, rfl⟩
            subst hwp
            go_wp2_with fail
            have HPO := Aside0.mk (part_own (w := wp) (n := k) (base := wp.heap.size) (by omega) (Nat.le_refl _))
            have HBp := Aside0.mk (below_alloc (Below.refl wp.heap.size wp) (.cells (topCells k 0 0 id) 25))
            clear hmk cg hpi
            go_loopw [15, 103] (fun r15 i W => ∃ (t : Nat), t ≤ k ∧ i = .int .i64 t ∧ Aside0 (KH.R 25 W wp.heap.size (fun _ => True) r15 (((selN l p k).take t).map fun x => (hsU ++ hsP).getD x (none, 0, 0))) ∧ Aside0 (Below wp.heap.size wp W)) (fun _ i _ => k - (intOf i).toNat)
            case atStart => exact ⟨0, Nat.zero_le _, rfl, HPO, HBp⟩
            case round =>
              clear HPO HBp
              obtain ⟨t, ht, rfl, HR15, HBp⟩ := hrel
              by_cases htk : t < k
              · clear ht
                obtain ⟨y, hy⟩ : ∃ y, (selN l p k)[t]? = some y := ⟨_, List.getElem?_eq_getElem (by rw [HKL.out]; exact htk)⟩
                have hyn := selN_lt (List.mem_of_getElem? hy)
                have hy2 : y < k + 2 := by have := HNK.out; omega
                obtain ⟨a11, ea11, ci⟩ := int_at (Kd.C_below H11.out HBp.out) htk (v := (y : Int)) (by rw [List.getElem?_map, hy]; rfl)
                subst ea11
                obtain ⟨x, hx⟩ : ∃ x, (hsU ++ hsP)[y]? = some x := ⟨_, List.getElem?_eq_getElem (by rw [HAA8.out.len]; exact hy2)⟩
                obtain ⟨a7, ea7, _⟩ := HA7C.out.2.2 (by omega)
                subst ea7
                have ca := KH_atA (Kd.C_below HA7C.out HBp.out) hy2 hx
                obtain ⟨A15, c15, e15, _⟩ := Kd.R_reads HR15.out
                rw [List.length_map, List.length_take, HKL.out, Nat.min_eq_left (by omega)] at e15
                subst e15
                have HGD := Aside0.mk (show (hsU ++ hsP).getD y (none, 0, 0) = x by rw [List.getD_eq_getElem?_getD, hx]; rfl)
                have HTY := Aside0.mk (show (selN l p k).take (t + 1) = (selN l p k).take t ++ [y] by rw [List.take_add_one, hy]; rfl)
                have HTK := Aside0.mk htk
                have HLT := Aside0.mk (show (((selN l p k).take t).map fun x => (hsU ++ hsP).getD x (none, 0, 0)).length = t by rw [List.length_map, List.length_take, HKL.out, Nat.min_eq_left (by omega)])
                have hti : decide ((t : Int) < (k : Int)) = true := decide_eq_true (by omega)
                have ht0 : (0 : Int) ≤ (t : Int) := by omega
                have ht1 : (t : Int) < (k : Int) := by omega
                have hy0 : (0 : Int) ≤ (y : Int) := by omega
                have hy1 : (y : Int) < (k : Int) + 2 := by omega
                obtain ⟨xA, xn, xc⟩ := x
                dsimp only at ca
                clear hy hyn hx
                go_wp2_with (first
                  | ((with_reducible refine gate_builtin (b := .append) (xs := #[.tmp 107, .tmp 112]) rfl ?_); at_builtin; refine Kd.R_append KH (w0 := wp) wp.heap.size rfl (.tmp 107) (.tmp 112) 46 25 (.slice none 0 0) 24 rfl Try.underlying46 Go.Proofs.Ytjolnjckgoilpaa.PRa.info25 rfl (by decide) (by omega) (.slice A15 t c15) (((selN l p k).take t).map fun x => (hsU ++ hsP).getD x (none, 0, 0)) (xA, xn, xc) [.slice xA xn xc] (fun _ => True) (fun _ => False) rfl rfl rfl (fun _ hk => hk.elim) (fun _ _ => trivial) HR15.out HBp.out HBp.out.size (by rw [HLT.out]; omega) ?_
                     intro v8 w8 ho hb hg hat
                     have H15 := Aside0.mk ho
                     have HB8 := Aside0.mk hb
                     clear ho hb hg hat HR15 HBp))
                go_roundw
                case measure => simp [intOf]; have := HTK.out; omega
                case rel => exact ⟨t + 1, by have := HTK.out; omega, by go_num, by rw [HTY.out, List.map_append, List.map_singleton, HGD.out]; exact H15, HB8⟩
              · obtain rfl : t = k := by omega
                obtain ⟨A15, c15, e15, _, hC15⟩ := Kd.R_reads HR15.out
                have htake : (selN l p t).take t = selN l p t := List.take_of_length_le (by rw [HKL.out]; exact Nat.le_refl _)
                rw [htake, List.length_map, HKL.out] at e15
                rw [htake, List.length_map, HKL.out] at hC15
                subst e15
                have HPL := Aside0.mk (KR_of_KH hC15 (((HAA8.out.below HBp.out).toRows (below_then HBw.out HBw.out.size HBp.out)).pick (selN l p t) (fun x hx => sel_all HNK.out hx)))
                have HIV := Aside0.mk (by have := inv_calls A15 c15 (partL l p t) bk 0 wr (by have := HPL.out; unfold partL; rw [List.length_map, HKL.out]; exact this) HINV.out; unfold partL at this; rw [List.length_map, HKL.out] at this; exact this : Calls Try.prog 30 #[.slice A15 t c15] wr fun e w' => ∃ v0_ : Value, e = .returned (.tuple #[v0_, .int .i64 0]) ∧ Kd.S (Kd.slice 5 (Kd.int .u8)) 25 w' wr.heap.size (fun _ => True) v0_ bk ∧ Below wr.heap.size wr w')
                have hti : decide ((t : Int) < (t : Int)) = false := decide_eq_false (by omega)
                clear hC15 htake HR15 HPL
                go_wp2_with (go_at_call 30; refine Calls.mono HIV.out ?_; rintro e w9 ⟨vb, rfl, hS, hb9⟩
                             obtain ⟨hsB, hB1, hB2, hB3⟩ := KH_of_R (Kd.S_R hS)
                             obtain ⟨AB, cB, evB, _⟩ := Kd.R_reads hB1
                             rw [hB2, HBK.out] at evB
                             subst evB
                             have HB1 := Aside0.mk hB1
                             have HBM := Aside0.mk (OwnM.mk (l := bk) hB2 hB3)
                             have HB9 := Aside0.mk hb9
                             clear hS hB1 hB2 hB3 hb9 HIV)
                have hb79 := below_then HB.out HB.out.size (below_then HBp.out (by have := HBp.out.size; omega) HB9.out)
                have hbp9 := below_then HBp.out HBp.out.size HB9.out
                obtain ⟨ob, cv', hf, hgo, hlo, _⟩ := Kd.R_form HH7.out (outs_pos HO7.out HNK.out)
                rw [HO7.out.len] at hf
                injection hf with hfa _ hfc
                subst hfa
                subst hfc
                have hml : (missN l p).length = q := by have := HQL.out; rw [missL_eq HLN.out, List.length_map] at this; exact this
                have HML := Aside0.mk hml
                have HD := Aside0.mk (RD.mk (w := w) (W := w9) (l := l) (bk := bk) (n := p) (m := m) (k := t) (ob := ob) (cv := cv) (P := fun i => pres l i ∨ i ∈ (missN l p).take 0) (L := rebL l p t m ρ)
                  (HZ7.out.then_ hb79) (Kd.R_below HH7.out hb79)
                  ((HO7.out.below hb79).congr (fun i hi hp => hp.resolve_right (by simp)) (fun i hi hp => by unfold rebL; rw [if_pos (hp.resolve_right (by simp))]))
                  (Kd.R_below HM7.out hb79)
                  (KH_ok (Kd.R_lower (Kd.R_below HA7.out hb79) HZ.out.below.size) (fun x hx e => by have h1 := Kd.R_base HA7.out x hx; have h2 := Kd.R_lt HH.out ob rfl; omega))
                  (HAA8.out.below hbp9)
                  (KH_ok (Kd.R_lower HB1.out (by have := HBw.out.size; have := HBp.out.size; omega)) (fun x hx e => by have h1 := Kd.R_base HB1.out x hx; have h2 := Kd.R_lt HH7.out ob rfl; have := HB.out.size; have := HBp.out.size; omega))
                  (HBM.out.lower (by have := HBw.out.size; have := HBp.out.size; omega))
                  (KH_ok (Kd.R_lower (Kd.R_below HR12.out hbp9) HZ7.out.below.size) (fun x hx e => by have h1 := Kd.R_base HR12.out x hx; have h2 := Kd.R_lt HH7.out ob rfl; omega)))
                clear hb79 hbp9 hml hlo hgo HZ HH HO HMI HB7 HA7 HAA HZ7 HH7 HO7 HM7 HR11 HR12 HB HBw H11 H12 HA7C HAA8 HBp HB1 HBM HB9
                go_loopw [122] (fun i W => ∃ (t2 : Nat) (hsO : List Hd), t2 ≤ q ∧ i = .int .i64 t2 ∧ Aside0 (RD w W l bk p m t ob cv (fun i => pres l i ∨ i ∈ (missN l p).take t2) hsO (hsU ++ hsP) hsB ((selN l p t).map fun x => hsI.getD x (none, 0, 0)) (.slice A7 (t + 2) c7) (.slice AB t cB) (.slice A12 t c12) (.slice B' q d') (rebL l p t m ρ))) (fun i _ => q - (intOf i).toNat)
                case atStart => exact ⟨0, _, Nat.zero_le _, rfl, HD⟩
                case round =>
                  clear HD
                  obtain ⟨t2, hsO, ht2, rfl, HD⟩ := hrel
                  by_cases htq : t2 < q
                  · clear ht2
                    obtain ⟨y, hy⟩ : ∃ y, (missN l p)[t2]? = some y := ⟨_, List.getElem?_eq_getElem (by rw [HML.out]; exact htq)⟩
                    have hym := missN_mem.mp (List.mem_of_getElem? hy)
                    have hy2 : y < t + 2 := by rw [← HNK.out]; exact hym.1
                    have HYM := Aside0.mk hym
                    have hbw := HD.out.two.below
                    have hmi := (Kd.R_reads' (n := q) HD.out.mi).2.2
                    rw [show (missL l).length = q from HQL.out] at hmi
                    obtain ⟨bd, ebd, ci⟩ := int_at hmi htq (v := (y : Int)) (by rw [missL_eq HLN.out, List.getElem?_map, hy]; rfl)
                    subst ebd
                    have hal := (Kd.R_reads' (n := t + 2) HD.out.all).2.2
                    rw [HD.out.alls.len] at hal
                    obtain ⟨x, hx⟩ : ∃ x, (hsU ++ hsP)[y]? = some x := ⟨_, List.getElem?_eq_getElem (by rw [HD.out.alls.len]; exact hy2)⟩
                    obtain ⟨a7, ea7, _⟩ := hal.2.2 (Nat.succ_pos _)
                    subst ea7
                    have ca := KH_atA hal hy2 hx
                    obtain ⟨hx1, hx2, hx3⟩ := (HD.out.alls.toRows hbw).2 y x hx
                    have hbk := (Kd.R_reads' (n := t) HD.out.back).2.2
                    rw [show hsB.length = t by rw [HD.out.backs.len]; exact HBK.out] at hbk
                    have HT1 := Aside0.mk (times_one (W := wr) (A0 := x.1) (n0 := x.2.1) (c0 := x.2.2) (c1 := cB) (x := row (allR t) y) (by rw [← hx1]; exact hx3) hx1 hx2 (KR_of_KH hbk HD.out.backs.toRows) HBK.out (HTM.out y hym.1 hym.2))
                    have HTY := Aside0.mk (show (missN l p).take (t2 + 1) = (missN l p).take t2 ++ [y] by rw [List.take_add_one, hy]; rfl)
                    have HTQ := Aside0.mk htq
                    have HDa := Aside0.mk (HD.out.below (below_alloc (Below.refl wr.heap.size wr) (.cells #[.slice x.1 x.2.1 x.2.2] 25)))
                    obtain ⟨xA, xn, xc⟩ := x
                    dsimp only at ca HT1 HDa
                    have hti : decide ((t2 : Int) < (q : Int)) = true := decide_eq_true (Int.ofNat_lt.mpr htq)
                    have ht0 : (0 : Int) ≤ (t2 : Int) := Int.natCast_nonneg _
                    have ht1 : (t2 : Int) < (q : Int) := Int.ofNat_lt.mpr htq
                    have hy0 : (0 : Int) ≤ (y : Int) := Int.natCast_nonneg _
                    have hy1 : (y : Int) < (t : Int) + 2 := by have := Int.ofNat_lt.mpr hy2; simpa using this
                    have hyp : (y : Int) < (p : Int) := Int.ofNat_lt.mpr hym.1
                    clear hy hym hmi hal hx hx1 hx2 hx3 hbk hbw hy2
                    go_wp2_with (go_at_call 31; refine Calls.mono HT1.out ?_; rintro e w10 ⟨vt, rfl, hS, hb10⟩
                                 obtain ⟨At, ct, evt, _, hCt⟩ := Kd.S_reads hS
                                 subst evt
                                 have HCT := Aside0.mk hCt
                                 have HD10 := Aside0.mk (HDa.out.below hb10)
                                 clear hS hCt hb10 HT1)
                    have c0 := HD10.out.two.c0
                    obtain ⟨dt, Ar, cr, edt, xr, lr, ir⟩ := rows_at HCT.out (i := 0) (Nat.succ_pos _)
                    subst edt
                    rw [show dt.add 0 = dt by simp [Addr.add]] at xr
                    have er : (row [rowL t (ρ y)] 0) = rowL t (ρ y) := rfl
                    rw [er, rowL_length] at xr ir lr
                    have hso := (Kd.R_reads' (n := t) HD10.out.some).2.2
                    rw [List.length_map, HKL.out] at hso
                    have HSO := Aside0.mk (KR_of_KH hso ((HI2.out.below HD10.out.two.below).pick (selN l p t) (fun x hx => by rw [HLN.out]; exact (selN_lt hx).1)))
                    have HT2 := Aside0.mk (fun (W : World) (hW : Below w10.heap.size w10 W) => times_last (W := W) (Kd.C_below ir hW) (HRHO.out y) (Kd.C_below HSO.out hW) HKL.out HOK.out HLN.out HMM.out hk hk2 hm9 (c := cr) (d := c12))
                    have HXR := Aside0.mk xr
                    clear ir lr hso er
                    refine wp_normal ?_
                    refine start_ (n := 9) (S := fun w' => w'.cell? ⟨w.heap.size, 0, none⟩ = some (.slice (some ⟨ob, 0, none⟩) p cv) ∧ w'.cell? dt = some (.slice Ar t cr)) (ds := [8]) #[false, false, false, false, false, false, false, false, false] (by kernel_rfl) rfl rfl ⟨c0, xr⟩ (fun hHeld => ?_)
                    refine with_tabW rebuild12.tab34 rebuild12.bits34 (fun HT_ HW_ => ?_)
                    refine pure_ (i := 1) (N := some 137) (v := ?_) (a' := ?_) #[false, true, false, false, false, false, false, false, false] rfl rfl (any_of HT_.out (by kernel_rfl)) (fun _ _ _ h => h) (Or.inl ⟨by rfl, ?_⟩) ?_ ?_
                    rotate_left
                    · intro w'
                      go_simp
                      with_reducible rfl
                    rotate_left
                    · simp only [Act.put, List.setIfInBounds_toArray, List.set_cons_zero, List.set_cons_succ, i64_w, i32_w]
                      rfl
                    refine pure_ (i := 2) (N := some 138) (v := ?_) (a' := ?_) #[false, true, true, false, false, false, false, false, false] rfl rfl (any_of HT_.out (by kernel_rfl)) (fun _ _ _ h => h) (Or.inl ⟨by rfl, ?_⟩) ?_ ?_
                    rotate_left
                    · intro w'
                      go_simp
                      with_reducible rfl
                    rotate_left
                    · simp only [Act.put, List.setIfInBounds_toArray, List.set_cons_zero, List.set_cons_succ, i64_w, i32_w]
                      rfl
                    refine pure_ (i := 3) (N := some 139) (v := ?_) (a' := ?_) #[false, true, true, true, false, false, false, false, false] rfl rfl (any_of HT_.out (by kernel_rfl)) (fun _ _ _ h => h) (Or.inl ⟨by rfl, ?_⟩) ?_ ?_
                    rotate_left
                    · intro w'
                      go_simp
                      with_reducible rfl
                    rotate_left
                    · simp only [Act.put, List.setIfInBounds_toArray, List.set_cons_zero, List.set_cons_succ, i64_w, i32_w]
                      rfl
                    refine pure_ (i := 5) (N := some 141) (v := ?_) (a' := ?_) #[false, true, true, true, false, true, false, false, false] rfl rfl (any_of HT_.out (by kernel_rfl)) (fun _ _ _ h => h) (Or.inl ⟨by rfl, ?_⟩) ?_ ?_
                    rotate_left
                    · intro w'
                      go_simp
                      with_reducible rfl
                    rotate_left
                    · simp only [Act.put, List.setIfInBounds_toArray, List.set_cons_zero, List.set_cons_succ, i64_w, i32_w]
                      rfl
                    refine take_ (i := 0) (N := some 136) (v := ?_) (a' := ?_) #[true, true, true, true, false, true, false, false, false] rfl rfl (take_ofW HT_.out HW_.out (by kernel_rfl)) (fun _ _ _ h => h) (Or.inl ⟨by rfl, ?_⟩) hHeld ?_ ?_
                    rotate_left
                    · rintro w' ⟨s0, s1⟩
                      go_simp
                      with_reducible rfl
                    rotate_left
                    · simp only [Act.put, List.setIfInBounds_toArray, List.set_cons_zero, List.set_cons_succ, i64_w, i32_w]
                      rfl
                    refine take_ (i := 4) (N := some 140) (v := ?_) (a' := ?_) #[true, true, true, true, true, true, false, false, false] rfl rfl (take_ofW HT_.out HW_.out (by kernel_rfl)) (fun _ _ _ h => h) (Or.inl ⟨by rfl, ?_⟩) hHeld ?_ ?_
                    rotate_left
                    · rintro w' ⟨s0, s1⟩
                      go_simp
                      with_reducible rfl
                    rotate_left
                    · simp only [Act.put, List.setIfInBounds_toArray, List.set_cons_zero, List.set_cons_succ, i64_w, i32_w]
                      rfl
                    refine one_ (i := 6) (N := some 142) #[true, true, true, true, true, true, true, false, false] rfl rfl (one_of HT_.out (by kernel_rfl)) (by decide) (fun K hK => ?_)
                    refine goes_ Try.func32 (by kernel_rfl) rfl #[.slice Ar t cr, .slice A12 t c12] (by rfl) rfl rfl (by simp only [List.map_toArray, List.map_cons, List.map_nil]; rfl) ?_
                    refine Calls.mono (HT2.out _ (below_drew (Below.refl _ _))) ?_
                    rintro e w11 ⟨gr, rfl, hgr, hrr, hbr⟩
                    refine ⟨_, rfl, ?_⟩
                    have hd11 := (HD10.out.below (below_drew (Below.refl w10.heap.size w10))).below hbr
                    obtain ⟨vo, co⟩ := hd11.cell HYM.out.1
                    have fo := hd11.free (y := y)
                    refine hK.out _ _ ⟨pw_cell_below hbr hHeld.1, pw_cell_below hbr hHeld.2⟩ (fun hHeld => ?_)
                    clear hK K
                    refine norm_ (a' := ?_) ?_ ?_
                    rotate_left
                    · show Act.put _ (some 142) _ = _
                      simp only [Act.put, List.setIfInBounds_toArray, List.set_cons_zero, List.set_cons_succ, i64_w, i32_w]
                      rfl
                    refine pure_ (i := 7) (N := some 143) (v := ?_) (a' := ?_) #[true, true, true, true, true, true, true, true, false] rfl rfl (any_of HT_.out (by kernel_rfl)) (fun _ _ _ h => h) (Or.inl ⟨by rfl, ?_⟩) ?_ ?_
                    rotate_left
                    · intro w'
                      go_simp
                      with_reducible rfl
                    rotate_left
                    · simp only [Act.put, List.setIfInBounds_toArray, List.set_cons_zero, List.set_cons_succ, i64_w, i32_w]
                      rfl
                    refine last_ (i := 8) (N := none) #[true, true, true, true, true, true, true, true, true] rfl rfl (one_of HT_.out (by kernel_rfl)) (by decide) (fun K hK => ?_)
                    refine skip_ (w1 := ?_) (by rfl) rfl ?_ ?_
                    rotate_left
                    · go_simp
                      rfl
                    refine hK.out _ _ ?_
                    clear hK K
                    refine done_ (done_of HT_.out (by kernel_rfl)) ?_
                    have HDN := Aside0.mk ((hd11.lay HYM.out.1 (by unfold rebL; rw [if_neg HYM.out.2, rowL_length]) (by unfold rebL; rw [if_neg HYM.out.2]; exact rowAt_R hrr (Nat.le_trans HD10.out.two.below.size hgr) (le_big hm9) trivial) ((HD10.out.below (below_drew (Below.refl w10.heap.size w10))).apart hgr)).congr (P' := fun i => pres l i ∨ i ∈ (missN l p).take (t2 + 1)) (fun i hi h => by
                      rw [HTY.out, List.mem_append, List.mem_singleton] at h
                      rcases h with h | h | h
                      · exact .inl (.inl h)
                      · exact .inl (.inr h)
                      · exact .inr h))
                    have hq2 := HQ2.out
                    have htq2 := HTQ.out
                    clear hd11 co fo hHeld hgr hrr hbr c0 xr HD HDa HD10 HCT HSO HT2 HXR
                    go_wp2_with fail
                    go_roundw
                    case measure => simp [intOf]; have := HTQ.out; omega
                    case rel => exact ⟨t2 + 1, _, HTQ.out, by go_num, HDN⟩
                  · obtain rfl : t2 = q := by omega
                    have hti : decide ((t2 : Int) < (t2 : Int)) = false := decide_eq_false (by omega)
                    have c0 := HD.out.two.c0
                    have f0 := HD.out.two.f0
                    have hz1 := HD.out.two.set0 (.slice (some ⟨ob, 0, none⟩) p cv)
                    have c1 := hz1.c1
                    have f1 := HD.out.two.f1
                    have HZ2 := Aside0.mk (hz1.set1 (.int .i64 0))
                    have HH1 := Aside0.mk (Kd.R_set (Kd.R_set HD.out.out HD.out.two.at0 (by simp [KH, Kd.scalar]) 0 (.slice (some ⟨ob, 0, none⟩) p cv)) hz1.at1 (by simp [KH, Kd.scalar]) 0 (.int .i64 0))
                    have HO1 := Aside0.mk (((HD.out.outs.set HD.out.two.at0 (by decide) 0 (.slice (some ⟨ob, 0, none⟩) p cv)).set hz1.at1 (by decide) 0 (.int .i64 0)).congr (P' := fun _ => True) (L' := rebL l p t m ρ) (fun i hi _ => by
                      by_cases h : pres l i
                      · exact .inl h
                      · right; rw [List.take_of_length_le (by rw [HML.out]; exact Nat.le_refl _)]; exact missN_mem.mpr ⟨hi, h⟩) (fun i hi _ => rfl))
                    clear hz1
                    go_wp2_with fail
                    refine leaves_cons (f := 21) (args := #[.pointer (some ⟨w.heap.size + 1, 0, none⟩), .func (.func 27) #[] #[.pointer (some ⟨w.heap.size, 0, none⟩)]]) (by simp) (by simp [go_sem]) ?_
                    refine (told_idle ⟨w.heap.size + 1, 0, none⟩ _ _).mono ?_
                    rintro e u' w'' ⟨rfl, rfl, rfl⟩
                    have r0 := HZ2.out.c0
                    have r1 := HZ2.out.c1
                    simp [Leaves, settle, results, Try.results12, go_sem, r0, r1]
                    exact ⟨_, _, _, rfl, HH1.out, HO1.out, HZ2.out.below⟩
end Go.Proofs.Ytjolnjckgoilpaa.Rs
