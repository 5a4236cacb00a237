/-
  The law RsFinds: its walk.
-/
import Derived.Test.YtjolnjckgoilpaaRsFp
set_option linter.unusedVariables false
set_option linter.unusedSimpArgs false
namespace Go.Proofs.Ytjolnjckgoilpaa.Rs
open Go.RowKit Go.Proofs.YtjolnjckgoilpaaW.PrintWords Go.Proofs.YtjolnjckgoilpaaW.PrintLast Go.Proofs.YtjolnjckgoilpaaW.PrintMore Go.Proofs.Ytjolnjckgoilpaa.PRa Go.Proofs.Ytjolnjckgoilpaa.Gf
theorem take_snoc {l : List (List Int)} {q : Nat} (h : q < l.length) : l.take (q + 1) = l.take q ++ [row l q] := by
  rw [List.take_succ_eq_append_getElem h]
  simp [row, List.getD, h]
theorem hdrs_snoc (n m B C : Nat) (b c : Nat → Nat) : hdrs (n + 1) m (fun q => if q = n then B else b q) (fun q => if q = n then C else c q) = hdrs n m b c ++ [(some ⟨B, 0, none⟩, m, C)] := by
  rw [hdrs_succ]
  rw [if_pos rfl, if_pos rfl]
  congr 1
  exact hdrs_congr fun i hi => by simp [show i ≠ n by omega]
/-- A block that was new is written: the rows stay. -/
theorem lay_grown {w W W1 : World} {n m : Nat} {b c : Nat → Nat} {l : List (List Int)} {o : Obj} (h : Lay w W n m b c l) (hg : (W.alloc o).grownBy W1 (some W.heap.size)) : Lay w W1 n m b c l :=
  ⟨h.len, fun i hi => ⟨(h.rows i hi).1, (h.rows i hi).2.1, Kd.R_mono (Kd.R_grown (ok := fun k => True ∧ k ≠ W.heap.size) (Kd.R_alloc (Kd.R_elderB (h.rows i hi).2.2 W.heap.size (Nat.le_refl _)) o) hg (fun k hk e => hk.2 (by injection e))) (fun _ _ => trivial)⟩, h.inj⟩
theorem grown_below {W W1 : World} {o : Obj} (hg : (W.alloc o).grownBy W1 (some W.heap.size)) : Below W.heap.size W W1 :=
  ⟨hg.os, hg.tape, hg.output, by have := hg.size; rw [World.size_alloc] at this; omega, fun k hk => (hg.block k (by rw [World.size_alloc]; omega) (by intro e; injection e with e; omega)).trans (Below.heap_alloc W o k hk)⟩
theorem KH_pair {W : World} {b m0 m1 c0 c1 : Nat} {A0 A1 : Option Addr} (h : W.heap[b]? = some (.cells #[.slice A0 m0 c0, .slice A1 m1 c1] 25 (0, 0))) : KH.C W (some ⟨b, 0, none⟩) 2 [(A0, m0, c0), (A1, m1, c1)] := by
  refine ⟨rfl, by omega, fun _ => ⟨_, rfl, fun j p hj => ?_⟩⟩
  match j, hj with
  | 0, hj =>
    obtain rfl := Option.some.inj hj
    refine ⟨_, rfl, rfl, fun i u hu => ?_⟩
    cases i with
    | zero =>
      obtain rfl := Option.some.inj hu
      rw [show 0 * KH.sz + 0 = 0 by simp, Addr.add_mid, cell_of_row W b _ _ 25 (0, 0) h]; rfl
    | succ i => simp at hu
  | 1, hj =>
    obtain rfl := Option.some.inj hj
    refine ⟨_, rfl, rfl, fun i u hu => ?_⟩
    cases i with
    | zero =>
      obtain rfl := Option.some.inj hu
      rw [show 1 * KH.sz + 0 = 1 by simp [KH, Kd.scalar], Addr.add_mid, cell_of_row W b _ _ 25 (0, 0) h]; rfl
    | succ i => simp at hu
/-- The rows and both of parity. -/
theorem lay_pair {w w4 w5 W : World} {k m p0 p1 pb : Nat} {b c : Nat → Nat} {a : List (List Int)} (h4 : Below w.heap.size w w4) (hp : PairAt w4 w5 pb p0 p1 m (tcol (rho 0) a k) (tcol (rho 1) a k)) (h : Lay w W k m b c a) (hb : Below w5.heap.size w5 W) (hg : ∀ p, p < k → w5.heap.size ≤ b p) (hm : m ≤ 1000000) :
    ∃ b2 c2, hdrs (k + 2) m b2 c2 = hdrs k m b c ++ [(some ⟨p0, 0, none⟩, m, m), (some ⟨p1, 0, none⟩, m, m)] ∧ Lay w W (k + 2) m b2 c2 (allL a k m) ∧ ∀ p, p < k + 2 → w4.heap.size ≤ b2 p := by
  have q0 : RowAt W p0 m (tcol (rho 0) a k) := (hb.block p0 (heap_lt hp.row0)).trans hp.row0
  have q1 : RowAt W p1 m (tcol (rho 1) a k) := (hb.block p1 (heap_lt hp.row1)).trans hp.row1
  have g0 := hp.ge
  have g1 := hp.lt
  have g2 := heap_lt hp.row1
  have g3 := h4.size
  have l1 := Lay.snoc h (rowL_length m (tcol (rho 0) a k)) (Nat.le_refl m) (rowAt_R q0 (by omega) (by omega) trivial) (fun i hi e => by have := hg i hi; omega)
  have l2 := Lay.snoc l1 (rowL_length m (tcol (rho 1) a k)) (Nat.le_refl m) (rowAt_R q1 (by omega) (by omega) trivial) (fun i hi e => by
    by_cases e1 : i = k
    · rw [if_pos e1] at e; omega
    · rw [if_neg e1] at e; have := hg i (by omega); omega)
  refine ⟨fun q => if q = k + 1 then p1 else if q = k then p0 else b q, fun q => if q = k + 1 then m else if q = k then m else c q, ?_, ?_, ?_⟩
  rotate_left
  · have e : a ++ [rowL m (tcol (rho 0) a k)] ++ [rowL m (tcol (rho 1) a k)] = allL a k m := by simp [allL]
    rw [← e]
    exact l2
  · intro p hp2
    by_cases e1 : p = k + 1
    · simp only [e1, if_pos]; omega
    · by_cases e2 : p = k
      · simp only [if_neg e1, e2, if_pos]
        rw [if_neg (by omega)]
        omega
      · simp only [if_neg e1, if_neg e2]
        have := hg p (by omega)
        have := hp.below.size
        omega
  · rw [show k + 2 = k + 1 + 1 from rfl, hdrs_snoc, hdrs_snoc, List.append_assoc]
    rfl
theorem KH_at {W : World} {ab n i : Nat} {hs : List Hd} {x : Hd} (h : KH.C W (some ⟨ab, 0, none⟩) n hs) (hi : i < n) (hx : hs[i]? = some x) : W.cell? ⟨ab, i, none⟩ = some (.slice x.1 x.2.1 x.2.2) := by
  obtain ⟨ad, c, e, _, hK, hc⟩ := Kd.C_get h x (i : Int) (by omega) (by omega)
  obtain rfl : (⟨ab, 0, none⟩ : Addr) = ad := by injection e
  rw [Int.toNat_natCast, List.getD_eq_getElem?_getD, hx] at hK
  have hK2 : c = [Value.slice x.1 x.2.1 x.2.2] := hK
  have := hc 0 (Value.slice x.1 x.2.1 x.2.2) (by rw [hK2]; rfl)
  rwa [Int.toNat_natCast, show i * KH.sz + 0 = i by simp [KH, Kd.scalar], Addr.add_mid, Nat.zero_add] at this
theorem tmod_facts {N m : Nat} (hm : 0 < m) (t : Nat) (ht : t < N) (k2 : Nat) (hN : k2 * m = N) : t / m < k2 ∧ t % m < m ∧ Int.tdiv (t : Int) (m : Int) = ((t / m : Nat) : Int) ∧ Int.tmod (t : Int) (m : Int) = ((t % m : Nat) : Int) := by
  refine ⟨by rw [Nat.div_lt_iff_lt_mul hm, hN]; exact ht, Nat.mod_lt _ hm, ?_, ?_⟩
  · rw [Int.tdiv_eq_ediv_of_nonneg (by omega)]; rfl
  · rw [Int.tmod_eq_emod_of_nonneg (by omega)]; rfl
theorem at_facts (x : Int) (q m : Nat) (hq : q ≤ 32) (hm0 : 0 < m) (hm4 : m ≤ 4000) : ∃ N t i jj : Nat,
    wrap64 (((q : Int) + 2) * (m : Int)) = (N : Int) ∧ ¬ (N : Int) = 0 ∧ ((x.tmod (N : Int) < 0 ∧ wrap64 (x.tmod (N : Int) + (N : Int)) = (t : Int)) ∨ x.tmod (N : Int) = (t : Int)) ∧
    i < q + 2 ∧ jj < m ∧ Int.tdiv (t : Int) (m : Int) = (i : Int) ∧ Int.tmod (t : Int) (m : Int) = (jj : Int) := by
  obtain ⟨N, hNd⟩ : ∃ N, (q + 2) * m = N := ⟨_, rfl⟩
  have hNle : N ≤ 34 * 4000 := by rw [← hNd]; exact Nat.mul_le_mul (by omega) hm4
  have hNpos : 0 < N := by rw [← hNd]; exact Nat.mul_pos (by omega) hm0
  have e : ((q : Int) + 2) * (m : Int) = (N : Int) := by rw [← hNd]; simp
  have hwN : wrap64 (((q : Int) + 2) * (m : Int)) = (N : Int) := by
    rw [e]
    clear e hNd
    unfold wrap64
    omega
  have htm := Int.tmod_lt_of_pos x (show (0 : Int) < (N : Int) by omega)
  have htm2 : -(N : Int) < x.tmod (N : Int) := Int.lt_tmod_of_pos x (show (0 : Int) < (N : Int) by omega)
  clear e
  obtain ⟨r, hr⟩ : ∃ r, x.tmod (N : Int) = r := ⟨_, rfl⟩
  rw [hr] at htm htm2
  by_cases hneg : r < 0
  · obtain ⟨t, ht⟩ : ∃ t : Nat, r + (N : Int) = (t : Int) := ⟨(r + (N : Int)).toNat, by clear hNd hwN; omega⟩
    obtain ⟨h1, h2, h3, h4⟩ := tmod_facts hm0 t (by clear hNd hwN; omega) (q + 2) hNd
    exact ⟨N, t, t / m, t % m, hwN, by clear hNd hwN; omega, .inl ⟨by rw [hr]; exact hneg, by rw [hr, ht]; clear hNd hwN h3 h4; unfold wrap64; omega⟩, h1, h2, h3, h4⟩
  · obtain ⟨t, ht⟩ : ∃ t : Nat, r = (t : Int) := ⟨r.toNat, by clear hNd hwN; omega⟩
    obtain ⟨h1, h2, h3, h4⟩ := tmod_facts hm0 t (by clear hNd hwN; omega) (q + 2) hNd
    exact ⟨N, t, t / m, t % m, hwN, by clear hNd hwN; omega, .inr (by rw [hr]; exact ht), h1, h2, h3, h4⟩
theorem wrap_nat (i : Nat) (h : i ≤ 100000000) : wrap64 ((i : Nat) : Int) = (i : Int) := by unfold wrap64; omega
theorem small_facts {q m i jj : Nat} (hi : i < q + 2) (hj : jj < m) (hq : q ≤ 32) : wrap64 ((i : Nat) : Int) = (i : Int) ∧ (0 : Int) ≤ (i : Int) ∧ (i : Int) < (q : Int) + 2 ∧ (0 : Int) ≤ (jj : Int) ∧ (jj : Int) < (m : Int) ∧ ¬ (m : Int) = 0 := by
  refine ⟨wrap_nat i (by omega), ?_, ?_, ?_, ?_, ?_⟩ <;> omega
def finds7.T28 : Bool × List (List Nat × List Nat) := (true, [([], []), ([], []), ([], []), ([2], [2]), ([3], [3]), ([4], [4]), ([1, 5], [1, 5]), ([0, 6], [0, 6]), ([7], [7]), ([], []), ([], []), ([10], [10]), ([11], [11]), ([12], [12]), ([9, 13], [9, 13]), ([], []), ([], []), ([], []), ([17], [17]), ([18], [18]), ([19], [19]), ([16, 20], [16, 20]), ([15, 21], [15, 21]), ([22], [22]), ([], []), ([], []), ([25], [25]), ([26], [26]), ([27], [27]), ([24, 28], [24, 28]), ([23, 29], [23, 29]), ([30], [30]), ([], []), ([31, 32], [31, 32]), ([8, 14, 0, 1, 2, 3, 4, 5, 6, 7, 8, 9, 10, 11, 12, 13, 14, 15, 16, 17, 18, 19, 20, 21, 22, 23, 24, 25, 26, 27, 28, 29, 30, 31, 32, 33], [8, 14]), ([34, 33, 0, 1, 2, 3, 4, 5, 6, 7, 8, 9, 10, 11, 12, 13, 14, 15, 16, 17, 18, 19, 20, 21, 22, 23, 24, 25, 26, 27, 28, 29, 30, 31, 32, 33], [33, 34])])
def finds7.B28 : List Nat := [0, 0, 0, 4, 12, 28, 62, 127, 255, 0, 0, 1024, 3072, 7168, 15872, 0, 0, 0, 131072, 393216, 917504, 2031616, 4161536, 8355840, 0, 0, 33554432, 100663296, 234881024, 520093696, 1073709056, 2147450880, 0, 8589901824, 17179869183, 34359738367]
theorem finds7.tab28 : rtab .any (opsOf Try.f7 28) = finds7.T28 := by kernel_rfl
theorem finds7.bits28 : waitsOk finds7.T28.2 finds7.B28 = true := by kernel_rfl
set_option maxHeartbeats 32000000 in
set_option maxRecDepth 100000 in
theorem finds7 (w : World) (A : Option Addr) (ca : Nat) (a : List (List Int)) (hA : KR.C w A a.length a) (hca : a.length ≤ ca)
    (oka : okB a = true) (la : a.length ≤ 100000000) (sa : (a.map List.length).sum ≤ 100000000) (at_ : Int) (hat : (Lit.int .i64 at_).wf = true) (by_ : Nat) (hby : by_ < 256) :
    Calls Try.prog 7 #[.slice A a.length ca, .int .i64 at_, .int .u8 by_] w fun e w' => e = .returned (.bool true) ∧ Below w.heap.size w w' := by
  have HK := Aside0.mk (fun (W : World) => known8 W)
  have HFa := Aside0.mk (fun (W : World) (hW : Below w.heap.size w W) => few9 W A ca a (Kd.C_below hA hW) hca la sa)
  have HA := Aside0.mk hA
  have OKa := Aside0.mk oka
  have HAT := Aside0.mk hat
  have HBY := Aside0.mk hby
  obtain ⟨k, hk⟩ : ∃ k, a.length = k := ⟨_, rfl⟩
  rw [hk] at HFa HA ⊢
  have HKA := Aside0.mk hk
  have HCA := Aside0.mk (show k ≤ ca by omega)
  clear hA hca oka la sa hk hat hby
  go_enter Try.func7, Try.ntmps7
  by_cases h1 : 1 ≤ k
  · by_cases h2 : k ≤ 32
    · have d1 : decide ((k : Int) < 1) = false := decide_eq_false (by omega)
      have d2 : decide ((32 : Int) < (k : Int)) = false := decide_eq_false (by omega)
      cases h4 : fewB a
      · rw [h4] at HFa
        go_wp2_with (first | (go_at_call 8; refine Calls.mono (HK.out _) ?_; rintro e w1 ⟨rfl, hb⟩; have HB := Aside0.mk hb; clear hb) | (go_at_call 9; refine Calls.mono (HFa.out _ HB.out) ?_; rintro e w2 ⟨rfl, hd⟩; replace HB := Aside0.mk (below_then HB.out HB.out.size hd.below); clear hd))
        go_ret
        exact ⟨rfl, HB.out⟩
      · rw [h4] at HFa
        have HF4 := Aside0.mk h4
        clear h4
        obtain ⟨ad, A0, c0, eA, hx0, hl0, hi0⟩ := rows_at HA.out (i := 0) (by omega)
        subst eA
        rw [show ad.add 0 = ad by simp [Addr.add]] at hx0
        have HM4 := Aside0.mk (few_row HF4.out 0)
        obtain ⟨m, hm⟩ : ∃ m, (row a 0).length = m := ⟨_, rfl⟩
        rw [hm] at hx0 HM4
        have HX0 := Aside0.mk hx0
        have HMm := Aside0.mk hm
        clear hx0 hl0 hi0 hm
        by_cases h6 : m = 0
        · subst h6
          go_wp2_with (first | (go_at_call 8; refine Calls.mono (HK.out _) ?_; rintro e w1 ⟨rfl, hb⟩; have HB := Aside0.mk hb; clear hb) | ((go_at_call 9; refine Calls.mono (HFa.out _ HB.out) ?_; rintro e w2 ⟨rfl, hd⟩; replace HB := Aside0.mk (below_then HB.out HB.out.size hd.below); clear hd); clear HFa; have x0 := pw_cell_below HB.out HX0.out))
          go_ret
          exact ⟨rfl, HB.out⟩
        · have d6 : ((m : Int) == 0) = false := by simp; omega
          by_cases h7 : by_ = 0
          · subst h7
            go_wp2_with (first | (go_at_call 8; refine Calls.mono (HK.out _) ?_; rintro e w1 ⟨rfl, hb⟩; have HB := Aside0.mk hb; clear hb) | ((go_at_call 9; refine Calls.mono (HFa.out _ HB.out) ?_; rintro e w2 ⟨rfl, hd⟩; replace HB := Aside0.mk (below_then HB.out HB.out.size hd.below); clear hd); clear HFa; have x0 := pw_cell_below HB.out HX0.out))
            go_ret
            exact ⟨rfl, HB.out⟩
          · have d7 : ((by_ : Int) == 0) = false := by simp; omega
            have HY0 := Aside0.mk h7
            clear h7
            go_wp2_with (first | (go_at_call 8; refine Calls.mono (HK.out _) ?_; rintro e w1 ⟨rfl, hb⟩; have HB := Aside0.mk hb; clear hb) | ((go_at_call 9; refine Calls.mono (HFa.out _ HB.out) ?_; rintro e w2 ⟨rfl, hd⟩; replace HB := Aside0.mk (below_then HB.out HB.out.size hd.below); clear hd); clear HFa; have x0 := pw_cell_below HB.out HX0.out))
            clear HK d1 d2 d6 d7
            have HM1 := Aside0.mk (show 0 < m by omega)
            go_loopw [8] (fun i W => ∃ (j : Nat), j ≤ k ∧ i = .int .i64 j ∧ Aside0 (∀ q, q < j → (row a q).length = m) ∧ Aside0 (Below w.heap.size w W)) (fun i _ => k - (intOf i).toNat)
            case atStart => exact ⟨0, Nat.zero_le _, rfl, ⟨fun q hq => absurd hq (Nat.not_lt_zero _)⟩, HB⟩
            case round =>
              clear HB
              obtain ⟨j, hj, rfl, HL, HB⟩ := hrel
              by_cases hjk : j < k
              · clear hj
                obtain ⟨ad', Aj, cj, eA, xa, la, ia⟩ := rows_at HA.out (i := j) hjk
                obtain rfl : ad = ad' := by injection eA
                replace xa := pw_cell_below HB.out xa
                have x0 := pw_cell_below HB.out HX0.out
                have hji : decide ((j : Int) < (k : Int)) = true := decide_eq_true (by omega)
                have hj0 : (0 : Int) ≤ (j : Int) := by omega
                have hj1 : (j : Int) < (k : Int) := by omega
                have hk0 : (0 : Int) < (k : Int) := by omega
                clear ia eA la
                obtain ⟨la, hla⟩ : ∃ la, (row a j).length = la := ⟨_, rfl⟩
                rw [hla] at xa
                have HLa := Aside0.mk hla
                clear hla
                go_wp2_with fail
                by_cases e1 : la = m
                · have f1 : ((la : Int) != (m : Int)) = false := by rw [e1]; simp
                  have HE1 := Aside0.mk e1
                  clear e1
                  go_quiet (fail)
                  go_wp2_with fail
                  go_roundw
                  case measure => simp [intOf]; omega
                  case rel => exact ⟨j + 1, by omega, by go_num, ⟨fun p hp => if h : p < j then HL.out p h else (by obtain rfl : p = j := (by omega); rw [HLa.out, HE1.out])⟩, ⟨pw_below_drewN HB.out nq⟩⟩
                · have f1 : ((la : Int) != (m : Int)) = true := by simp; omega
                  go_quiet (fail)
                  go_wp2_with fail
                  go_ret
                  exact ⟨rfl, pw_below_drewN HB.out nq⟩
              · obtain rfl : j = k := by omega
                have hkk : decide ((j : Int) < (j : Int)) = false := decide_eq_false (by omega)
                have HN := Aside0.mk (fun (W : World) => (by refine (new10 W (j : Int)).mono ?_; rintro e w' ⟨hb, h⟩; rw [if_pos (by omega)] at h; obtain ⟨g, rfl, hg, hc⟩ := h; exact ⟨g, rfl, hc, hb⟩ : Calls Try.prog 10 #[.int .i64 j] W fun e w' => ∃ g, e = .returned (.tuple #[.pointer (some ⟨g, 0, none⟩), .int .i64 0]) ∧ CodeAt w' g j ∧ Below W.heap.size W w'))
                have HP := Aside0.mk (fun (W : World) (g : Nat) (hc : CodeAt W g j) (hW : Below w.heap.size w W) => parity11_ok W g j hc h1 h2 (some ad) ca a (Kd.C_below HA.out hW) HKA.out HCA.out m (by have := HM4.out; omega) OKa.out HL.out (sizes_rows (by rw [HKA.out]; exact HL.out)) (miss_rows HM1.out (by rw [HKA.out]; exact HL.out)))
                go_wp2_with (first
                  | (go_at_call 10; refine Calls.mono (HN.out _) ?_; rintro e w4 ⟨gc, rfl, hc, hb⟩; have HC4 := Aside0.mk hc; have HB4 := Aside0.mk (below_then HB.out HB.out.size hb); clear hc hb HB HN)
                  | (go_at_call 11; refine Calls.mono (HP.out _ gc HC4.out HB4.out) ?_; rintro e w5 ⟨pb, p0, p1, rfl, hp⟩; have HP5 := Aside0.mk hp; have HB5 := Aside0.mk (below_then HB4.out HB4.out.size hp.below); have HC5 := Aside0.mk (HC4.out.below hp.below); clear hp HP))
                clear hkk hj hjk
                have HBz := Aside0.mk (Below.refl w5.heap.size w5)
                go_loopw [13, 14] (fun v i W => ∃ (q : Nat) (b c : Nat → Nat), q ≤ j ∧ i = .int .i64 q ∧ Aside0 (KH.R 25 W w5.heap.size (fun _ => True) v (hdrs q m b c)) ∧ Aside0 (Lay w W q m b c (a.take q)) ∧ Aside0 (Below w5.heap.size w5 W) ∧ Aside0 (∀ p, p < q → w5.heap.size ≤ b p)) (fun _ i _ => j - (intOf i).toNat)
                case atStart => exact ⟨0, id, id, Nat.zero_le _, rfl, ⟨Kd.R_nil _ _ _ _ _⟩, ⟨Lay.nil _ _ _ _ _⟩, HBz, ⟨fun p hp => absurd hp (Nat.not_lt_zero _)⟩⟩
                case round =>
                  clear HBz
                  obtain ⟨q, b, c, hq, rfl, HH, HY, HB, HG⟩ := hrel
                  have HBw := Aside0.mk (below_then HB5.out HB5.out.size HB.out)
                  by_cases hqj : q < j
                  · clear hq
                    obtain ⟨ad', Aj, cj, eA, xa, la, ia⟩ := rows_at HA.out (i := q) hqj
                    obtain rfl : ad = ad' := by injection eA
                    have HQM := Aside0.mk (HL.out q hqj)
                    replace xa := pw_cell_below (below_alloc (Below.refl wr.heap.size wr) (.cells #[] 5)) (pw_cell_below HBw.out xa)
                    rw [HQM.out] at xa ia
                    have IA := Aside0.mk ia
                    have HS0 := Aside0.mk (rowAt_R (w := wr.alloc (.cells #[] 5)) (d := wr.heap.size) (c := 0) (base := w.heap.size) (f := fun _ => 0) (ok := fun _ => True) (heap_alloc_last _ _) HBw.out.size (by omega) trivial)
                    have HBa := Aside0.mk (below_alloc HBw.out (.cells #[] 5))
                    have HHa := Aside0.mk (Kd.R_alloc HH.out (.cells #[] 5))
                    have HYa := Aside0.mk (HY.out.below (below_alloc (Below.refl _ _) (.cells #[] 5)))
                    have HB5a := Aside0.mk (below_alloc HB.out (.cells #[] 5))
                    have HSz := Aside0.mk HB.out.size
                    have HSzw := Aside0.mk HBw.out.size
                    have HBL := Aside0.mk (fun p (hp : p < q) => (HY.out.block hp).2.1)
                    have HTK := Aside0.mk (take_snoc (l := a) (q := q) (by rw [HKA.out]; exact hqj))
                    have hqi : decide ((q : Int) < (j : Int)) = true := decide_eq_true (by omega)
                    have hq0 : (0 : Int) ≤ (q : Int) := by omega
                    have hq1 : (q : Int) < (j : Int) := by omega
                    have hm4 := HM4.out
                    clear la eA ia
                    go_wp2_with (first
                      | ((with_reducible refine gate_builtin (b := .append) (xs := #[.tmp 78, .tmp 82]) rfl ?_); refine Kd.R_append_rows KB (w0 := w) w.heap.size rfl (.tmp 78) (.tmp 82) 25 5 (.int .u8 0) 1 rfl Try.underlying25 Go.Proofs.Ytjolnjckgoilpaa.PRa.info5 rfl (by decide) (by omega) (.slice (some ⟨wr.heap.size, 0, none⟩) 0 0) [] (row a q) _ _ _ (fun _ => True) (fun _ => False) rfl rfl HS0.out (Kd.C_below IA.out HBa.out) (fun _ _ h => h) (fun _ h => h.elim) (fun _ _ => trivial) HBa.out HBa.out.size (by simp; omega) ?_
                         intro v1 w6 ho hb hg hat
                         rw [List.nil_append] at ho
                         obtain ⟨g1, c1, rfl, _⟩ := Kd.R_form ho (by rw [HQM.out]; exact HM1.out)
                         have hle : m ≤ c1 := by have := (Kd.R_reads' ho).2.1; rwa [HQM.out] at this
                         have hge : wr.heap.size ≤ g1 := by
                           rcases hat with h | ⟨b', h, h'⟩
                           · have : some g1 = some wr.heap.size := h
                             injection this with this
                             omega
                           · have : some g1 = some b' := h
                             injection this with this
                             rw [World.size_alloc] at h'
                             omega
                         have hLE := Aside0.mk hle
                         have HGE := Aside0.mk hge
                         have hgw : wr.heap.size + 1 ≤ w6.heap.size := by have := hg.size; rwa [World.size_alloc] at this
                         have hgB : (wr.alloc (.cells #[] 5)).grownBy w6 (some wr.heap.size) := hg
                         have HB6 := Aside0.mk hb
                         have HH6 := Aside0.mk (Kd.R_grown (ok := fun k => True ∧ k ≠ wr.heap.size) (Kd.R_alloc (Kd.R_elderB HH.out wr.heap.size (Nat.le_refl _)) (.cells #[] 5)) hgB (fun k hk e => hk.2 (by injection e)))
                         have HY6 := Aside0.mk (lay_grown HY.out hgB)
                         have HB56 := Aside0.mk (below_then HB.out HB.out.size (grown_below hgB))
                         rw [HQM.out] at ho ⊢
                         have HR6 := Aside0.mk ho
                         clear ho hb hg hat hle hge hgB hgw HS0 HBa HHa HYa HB5a HH HY HB)
                      | ((with_reducible refine gate_builtin (b := .append) (xs := #[.tmp 77, .tmp 84]) rfl ?_); refine Kd.R_append KH (w0 := w5) w5.heap.size rfl (.tmp 77) (.tmp 84) 22 25 (.slice none 0 0) 24 rfl Try.underlying22 Go.Proofs.Ytjolnjckgoilpaa.PRa.info25 rfl (by decide) (by omega) u13 (hdrs q m b c) (some ⟨g1, 0, none⟩, m, c1) [.slice (some ⟨g1, 0, none⟩) m c1] (fun _ => True) (fun _ => False) rfl rfl rfl (fun _ hk => hk.elim) (fun _ _ => trivial) (Kd.R_mono HH6.out (fun _ _ => trivial)) HB56.out HB56.out.size (by rw [hdrs_length]; omega) ?_
                         intro v2 w7 ho hb hg hat
                         have HY7 := Aside0.mk ((Lay.snoc HY6.out HQM.out hLE.out HR6.out (fun p hp e => by have := HBL.out p hp; have := HGE.out; omega)).over HH6.out hg)
                         have HB57 := Aside0.mk hb
                         rw [← hdrs_snoc] at ho
                         have HH7 := Aside0.mk ho
                         clear ho hb hg hat HB6 HH6 HY6 HB56))
                    go_roundw
                    case measure => simp [intOf]; omega
                    case rel => exact ⟨q + 1, _, _, by omega, by go_num, HH7, by rw [HTK.out]; exact HY7, HB57, ⟨fun p hp => by by_cases e : p = q; simp only [e, if_pos]; have := HGE.out; have := HSz.out; omega; simp only [if_neg e]; exact HG.out p (by omega)⟩⟩
                  · obtain rfl : q = j := by omega
                    have hqi : decide ((q : Int) < (q : Int)) = false := decide_eq_false (by omega)
                    have HYa := Aside0.mk (by have := HY.out; rwa [List.take_of_length_le (by rw [HKA.out]; exact Nat.le_refl _)] at this : Lay w wr q m b c a)
                    have HPC := Aside0.mk (KH_pair (W := wr) ((HB.out.block pb (heap_lt HP5.out.top)).trans HP5.out.top))
                    obtain ⟨b2, c2, eh, hy2, hb2⟩ := lay_pair HB4.out HP5.out HYa.out HB.out HG.out (by have := HM4.out; omega)
                    have HY2 := Aside0.mk hy2
                    have HEH := Aside0.mk eh
                    have HB2 := Aside0.mk hb2
                    have HB45 := Aside0.mk (below_then HP5.out.below HP5.out.below.size HB.out)
                    clear eh hy2 hb2 HY HYa HG
                    have HLA := Aside0.mk (allL_lens (m := m) HKA.out HL.out)
                    have HLK := Aside0.mk (allL_len (a := a) (m := m) HKA.out)
                    have HOA := Aside0.mk (allL_ok (k := q) (m := m) OKa.out)
                    have HCH := Aside0.mk (chk_all (m := m) HKA.out)
                    have HCP := Aside0.mk (fun (i j : Nat) (hi : i < q + 2) (hj : j < m) => chk_put HKA.out OKa.out HL.out hi hj HY0.out HBY.out)
                    have HZS := Aside0.mk (fun (l : List (List Int)) (hl : l.length = q + 2) (hr : ∀ i, i < q + 2 → (row l i).length = m) => And.intro (sizes_rows (l := l) (m := m) (by rw [hl]; exact hr)) (miss_rows (l := l) HM1.out (by rw [hl]; exact hr)))
                    generalize hAL : allL a q m = l at *
                    clear hAL
                    obtain ⟨N, t, i, jj, hwN, hN0, hrt, hti, htj, htq, htr⟩ := at_facts at_ q m h2 HM1.out HM4.out
                    have HIQ := Aside0.mk hti
                    have HJM := Aside0.mk htj
                    obtain ⟨hwi, hi0, hi1, hjj0, hjj1, hm0⟩ := small_facts hti htj h2
                    clear hti htj
                    rcases hrt with ⟨hneg, hwt⟩ | hrt
                    · obtain ⟨r, hr⟩ : ∃ r, at_.tmod (N : Int) = r := ⟨_, rfl⟩
                      rw [hr] at hneg hwt
                      have hnd : decide (r < 0) = true := decide_eq_true hneg
                      clear hneg
                      have hm4 := HM4.out
                      go_wp2_with (first
                        | ((with_reducible refine gate_builtin (b := .append) (xs := #[.tmp 86, .tmp 87]) rfl ?_); refine Kd.R_append_rows KH (w0 := w5) w5.heap.size rfl (.tmp 86) (.tmp 87) 22 25 (.slice none 0 0) 24 rfl Try.underlying22 Go.Proofs.Ytjolnjckgoilpaa.PRa.info25 rfl (by decide) (by omega) u13 (hdrs q m b c) [(some ⟨p0, 0, none⟩, m, m), (some ⟨p1, 0, none⟩, m, m)] _ _ _ (fun _ => True) (fun _ => False) rfl rfl HH.out HPC.out (fun _ _ h => h) (fun _ h => h.elim) (fun _ _ => trivial) HB.out HB.out.size (by rw [hdrs_length]; omega) ?_
                           intro v3 w8 ho hb hg hat
                           rw [← HEH.out] at ho
                           obtain ⟨ab, cap, rfl, hab, hab2, hab3⟩ := Kd.R_form ho (by rw [hdrs_length]; omega)
                           have HCAP := Aside0.mk (Kd.R_reads' ho).2.1
                           have HY8 := Aside0.mk (HY2.out.over HH.out hg)
                           have HB58 := Aside0.mk hb
                           rw [hdrs_length] at ho HCAP ⊢
                           have HH8 := Aside0.mk ho
                           clear ho hb hg hat HH HY2 HPC HEH HB
                           have HC8 := Aside0.mk (HC5.out.below HB58.out)
                           have HCQ := Aside0.mk (check18_ok w8 gc q HC8.out h1 h2 (some ⟨ab, 0, none⟩) cap l (q + 2) (KR_of_KH (by have := (Kd.R_reads' (n := q + 2) HH8.out).2.2; rwa [hdrs_length] at this) HY8.out.toRows) rfl HCAP.out m (by omega) HOA.out HLA.out (HZS.out l HLK.out HLA.out).1 (HZS.out l HLK.out HLA.out).2))
                        | (go_at_call 18; refine Calls.mono HCQ.out ?_; rintro e w9 ⟨rfl, hb9⟩; rw [HCH.out]; have HB9 := Aside0.mk hb9; have HBw9 := Aside0.mk (below_then (below_then HB5.out HB5.out.size HB58.out) (by have := HB5.out.size; have := HB58.out.size; omega) hb9); have x9 := pw_cell_below HBw9.out HX0.out; have hq0 : (0 : Int) < (q : Int) := (by omega); clear hb9 HCQ))
                      have HK9 := Aside0.mk (by have := (Kd.R_reads' (n := q + 2) HH8.out).2.2; rw [hdrs_length] at this; exact Kd.C_below this HB9.out : KH.C w9 (some ⟨ab, 0, none⟩) (q + 2) (hdrs (q + 2) m b2 c2))
                      have ch := KH_at HK9.out HIQ.out (hdrs_at HIQ.out)
                      have HY9 := Aside0.mk (HY8.out.below HB9.out)
                      have HC9 := HY9.out.cell HIQ.out HJM.out HOA.out
                      obtain ⟨cb, fb⟩ := HC9
                      have hxr := xor_nat _ _ (okB_at HOA.out i jj).1 HBY.out
                      have HVV := Aside0.mk (GfM.xor_lt _ _ (okB_at HOA.out i jj).1 HBY.out)
                      have HCF := Aside0.mk (HCP.out i jj HIQ.out HJM.out)
                      have HPL := Aside0.mk (fun (v : Nat) => HY9.out.put HIQ.out jj ((v : Nat) : Int))
                      have HGE := Aside0.mk (HB2.out i HIQ.out)
                      have HBL := Aside0.mk (HY9.out.block HIQ.out)
                      have HB49 := Aside0.mk (below_then (below_then HP5.out.below HP5.out.below.size HB58.out) (by have := HP5.out.below.size; have := HB58.out.size; omega) HB9.out)
                      obtain ⟨vv, hvv⟩ : ∃ vv, byt l i jj ^^^ by_ = vv := ⟨_, rfl⟩
                      rw [hvv] at hxr HVV HCF
                      clear hvv
                      generalize hyy : byt l i jj = yy at hxr cb
                      clear hyy
                      obtain ⟨bi, hbi⟩ : ∃ bi, b2 i = bi := ⟨_, rfl⟩
                      obtain ⟨ci, hci⟩ : ∃ ci, c2 i = ci := ⟨_, rfl⟩
                      rw [hbi] at ch cb fb HPL HGE HBL
                      rw [hci] at ch
                      clear hbi hci
                      have HKF := Aside0.mk (Kd.R_drew (Kd.R_set (Kd.R_below HH8.out HB9.out) HBL.out.2.2.choose_spec (by simp [KH, Kd.scalar]) jj (.int .u8 ((vv : Nat) : Int))))
                      have HYF := Aside0.mk ((HPL.out vv).below (below_drew (Below.refl _ _)))
                      have HBF := Aside0.mk (below_drew (below_set (j := jj) (v := .int .u8 ((vv : Nat) : Int)) HBw9.out HBL.out.1))
                      have HQ2 := Aside0.mk (check18_ok ((w9.setCell ⟨bi, jj, none⟩ (.int .u8 ((vv : Nat) : Int))).drew) gc q (HC4.out.below (below_drew (below_set HB49.out HGE.out))) h1 h2 (some ⟨ab, 0, none⟩) cap (putL l i jj vv) (q + 2) (KR_of_KH (by have := (Kd.R_reads' (n := q + 2) HKF.out).2.2; rwa [hdrs_length] at this) HYF.out.toRows) rfl HCAP.out m (by omega) (putL_ok HOA.out HVV.out) (fun p hp => by rw [putL_lens (by rw [HLK.out]; exact HIQ.out)]; exact HLA.out p hp) (HZS.out _ (by rw [putL_len, HLK.out]) (fun p hp => by rw [putL_lens (by rw [HLK.out]; exact HIQ.out)]; exact HLA.out p hp)).1 (HZS.out _ (by rw [putL_len, HLK.out]) (fun p hp => by rw [putL_lens (by rw [HLK.out]; exact HIQ.out)]; exact HLA.out p hp)).2)
                      replace ch : w9.cell? ⟨ab, i, none⟩ = some (.slice (some ⟨bi, 0, none⟩) m ci) := ch
                      clear HK9 HKF HYF HPL HBL HY9 HH8 HCP HZS HCH
                      have hqn : 0 < q := by omega
                      refine start_ (n := 36) (S := fun w' => w'.cell? ad = some (.slice A0 m c0) ∧ w'.cell? ⟨ab, i, none⟩ = some (.slice (some ⟨bi, 0, none⟩) m ci) ∧ w'.cell? ⟨bi, jj, none⟩ = some (.int .u8 (yy : Int))) (ds := [35]) #[false, false, false, false, false, false, false, false, false, false, false, false, false, false, false, false, false, false, false, false, false, false, false, false, false, false, false, false, false, false, false, false, false, false, false, false] (by kernel_rfl) rfl rfl ⟨x9, ch, cb⟩ (fun hHeld => ?_)
                      refine with_tabW finds7.tab28 finds7.bits28 (fun HT_ HW_ => ?_)
                      refine pure_ (i := 0) (N := some 116) (v := ?_) (a' := ?_) #[true, false, false, false, false, false, false, false, false, false, false, false, false, false, false, false, false, false, false, false, false, false, false, false, false, false, false, false, false, false, false, false, false, false, false, false] rfl rfl (any_of HT_.out (by kernel_rfl)) (fun _ _ _ h => h) (Or.inl ⟨by rfl, ?_⟩) ?_ ?_
                      rotate_left
                      · intro w'
                        go_simp
                        with_reducible rfl
                      rotate_left
                      · simp only [Act.put, List.setIfInBounds_toArray, List.set_cons_zero, List.set_cons_succ, i64_w, i32_w]
                        rfl
                      refine pure_ (i := 1) (N := some 117) (v := ?_) (a' := ?_) #[true, true, false, false, false, false, false, false, false, false, false, false, false, false, false, false, false, false, false, false, false, false, false, false, false, false, false, false, false, false, false, false, false, false, false, false] rfl rfl (any_of HT_.out (by kernel_rfl)) (fun _ _ _ h => h) (Or.inl ⟨by rfl, ?_⟩) ?_ ?_
                      rotate_left
                      · intro w'
                        go_simp
                        with_reducible rfl
                      rotate_left
                      · simp only [Act.put, List.setIfInBounds_toArray, List.set_cons_zero, List.set_cons_succ, i64_w, i32_w]
                        rfl
                      refine pure_ (i := 2) (N := some 118) (v := ?_) (a' := ?_) #[true, true, true, false, false, false, false, false, false, false, false, false, false, false, false, false, false, false, false, false, false, false, false, false, false, false, false, false, false, false, false, false, false, false, false, false] rfl rfl (any_of HT_.out (by kernel_rfl)) (fun _ _ _ h => h) (Or.inl ⟨by rfl, ?_⟩) ?_ ?_
                      rotate_left
                      · intro w'
                        go_simp
                        with_reducible rfl
                      rotate_left
                      · simp only [Act.put, List.setIfInBounds_toArray, List.set_cons_zero, List.set_cons_succ, i64_w, i32_w]
                        rfl
                      refine pure_ (i := 3) (N := some 119) (v := ?_) (a' := ?_) #[true, true, true, true, false, false, false, false, false, false, false, false, false, false, false, false, false, false, false, false, false, false, false, false, false, false, false, false, false, false, false, false, false, false, false, false] rfl rfl (any_of HT_.out (by kernel_rfl)) (fun _ _ _ h => h) (Or.inl ⟨by rfl, ?_⟩) ?_ ?_
                      rotate_left
                      · intro w'
                        go_simp
                        with_reducible rfl
                      rotate_left
                      · simp only [Act.put, List.setIfInBounds_toArray, List.set_cons_zero, List.set_cons_succ, i64_w, i32_w]
                        rfl
                      refine pure_ (i := 9) (N := some 125) (v := ?_) (a' := ?_) #[true, true, true, true, false, false, false, false, false, true, false, false, false, false, false, false, false, false, false, false, false, false, false, false, false, false, false, false, false, false, false, false, false, false, false, false] rfl rfl (any_of HT_.out (by kernel_rfl)) (fun _ _ _ h => h) (Or.inl ⟨by rfl, ?_⟩) ?_ ?_
                      rotate_left
                      · intro w'
                        go_simp
                        with_reducible rfl
                      rotate_left
                      · simp only [Act.put, List.setIfInBounds_toArray, List.set_cons_zero, List.set_cons_succ, i64_w, i32_w]
                        rfl
                      refine pure_ (i := 10) (N := some 126) (v := ?_) (a' := ?_) #[true, true, true, true, false, false, false, false, false, true, true, false, false, false, false, false, false, false, false, false, false, false, false, false, false, false, false, false, false, false, false, false, false, false, false, false] rfl rfl (any_of HT_.out (by kernel_rfl)) (fun _ _ _ h => h) (Or.inl ⟨by rfl, ?_⟩) ?_ ?_
                      rotate_left
                      · intro w'
                        go_simp
                        with_reducible rfl
                      rotate_left
                      · simp only [Act.put, List.setIfInBounds_toArray, List.set_cons_zero, List.set_cons_succ, i64_w, i32_w]
                        rfl
                      refine pure_ (i := 11) (N := some 127) (v := ?_) (a' := ?_) #[true, true, true, true, false, false, false, false, false, true, true, true, false, false, false, false, false, false, false, false, false, false, false, false, false, false, false, false, false, false, false, false, false, false, false, false] rfl rfl (any_of HT_.out (by kernel_rfl)) (fun _ _ _ h => h) (Or.inl ⟨by rfl, ?_⟩) ?_ ?_
                      rotate_left
                      · intro w'
                        go_simp
                        with_reducible rfl
                      rotate_left
                      · simp only [Act.put, List.setIfInBounds_toArray, List.set_cons_zero, List.set_cons_succ, i64_w, i32_w]
                        rfl
                      refine pure_ (i := 15) (N := some 131) (v := ?_) (a' := ?_) #[true, true, true, true, false, false, false, false, false, true, true, true, false, false, false, true, false, false, false, false, false, false, false, false, false, false, false, false, false, false, false, false, false, false, false, false] rfl rfl (any_of HT_.out (by kernel_rfl)) (fun _ _ _ h => h) (Or.inl ⟨by rfl, ?_⟩) ?_ ?_
                      rotate_left
                      · intro w'
                        go_simp
                        with_reducible rfl
                      rotate_left
                      · simp only [Act.put, List.setIfInBounds_toArray, List.set_cons_zero, List.set_cons_succ, i64_w, i32_w]
                        rfl
                      refine pure_ (i := 16) (N := some 132) (v := ?_) (a' := ?_) #[true, true, true, true, false, false, false, false, false, true, true, true, false, false, false, true, true, false, false, false, false, false, false, false, false, false, false, false, false, false, false, false, false, false, false, false] rfl rfl (any_of HT_.out (by kernel_rfl)) (fun _ _ _ h => h) (Or.inl ⟨by rfl, ?_⟩) ?_ ?_
                      rotate_left
                      · intro w'
                        go_simp
                        with_reducible rfl
                      rotate_left
                      · simp only [Act.put, List.setIfInBounds_toArray, List.set_cons_zero, List.set_cons_succ, i64_w, i32_w]
                        rfl
                      refine pure_ (i := 17) (N := some 133) (v := ?_) (a' := ?_) #[true, true, true, true, false, false, false, false, false, true, true, true, false, false, false, true, true, true, false, false, false, false, false, false, false, false, false, false, false, false, false, false, false, false, false, false] rfl rfl (any_of HT_.out (by kernel_rfl)) (fun _ _ _ h => h) (Or.inl ⟨by rfl, ?_⟩) ?_ ?_
                      rotate_left
                      · intro w'
                        go_simp
                        with_reducible rfl
                      rotate_left
                      · simp only [Act.put, List.setIfInBounds_toArray, List.set_cons_zero, List.set_cons_succ, i64_w, i32_w]
                        rfl
                      refine pure_ (i := 18) (N := some 134) (v := ?_) (a' := ?_) #[true, true, true, true, false, false, false, false, false, true, true, true, false, false, false, true, true, true, true, false, false, false, false, false, false, false, false, false, false, false, false, false, false, false, false, false] rfl rfl (any_of HT_.out (by kernel_rfl)) (fun _ _ _ h => h) (Or.inl ⟨by rfl, ?_⟩) ?_ ?_
                      rotate_left
                      · intro w'
                        go_simp
                        with_reducible rfl
                      rotate_left
                      · simp only [Act.put, List.setIfInBounds_toArray, List.set_cons_zero, List.set_cons_succ, i64_w, i32_w]
                        rfl
                      refine pure_ (i := 24) (N := some 140) (v := ?_) (a' := ?_) #[true, true, true, true, false, false, false, false, false, true, true, true, false, false, false, true, true, true, true, false, false, false, false, false, true, false, false, false, false, false, false, false, false, false, false, false] rfl rfl (any_of HT_.out (by kernel_rfl)) (fun _ _ _ h => h) (Or.inl ⟨by rfl, ?_⟩) ?_ ?_
                      rotate_left
                      · intro w'
                        go_simp
                        with_reducible rfl
                      rotate_left
                      · simp only [Act.put, List.setIfInBounds_toArray, List.set_cons_zero, List.set_cons_succ, i64_w, i32_w]
                        rfl
                      refine pure_ (i := 25) (N := some 141) (v := ?_) (a' := ?_) #[true, true, true, true, false, false, false, false, false, true, true, true, false, false, false, true, true, true, true, false, false, false, false, false, true, true, false, false, false, false, false, false, false, false, false, false] rfl rfl (any_of HT_.out (by kernel_rfl)) (fun _ _ _ h => h) (Or.inl ⟨by rfl, ?_⟩) ?_ ?_
                      rotate_left
                      · intro w'
                        go_simp
                        with_reducible rfl
                      rotate_left
                      · simp only [Act.put, List.setIfInBounds_toArray, List.set_cons_zero, List.set_cons_succ, i64_w, i32_w]
                        rfl
                      refine pure_ (i := 26) (N := some 142) (v := ?_) (a' := ?_) #[true, true, true, true, false, false, false, false, false, true, true, true, false, false, false, true, true, true, true, false, false, false, false, false, true, true, true, false, false, false, false, false, false, false, false, false] rfl rfl (any_of HT_.out (by kernel_rfl)) (fun _ _ _ h => h) (Or.inl ⟨by rfl, ?_⟩) ?_ ?_
                      rotate_left
                      · intro w'
                        go_simp
                        with_reducible rfl
                      rotate_left
                      · simp only [Act.put, List.setIfInBounds_toArray, List.set_cons_zero, List.set_cons_succ, i64_w, i32_w]
                        rfl
                      refine pure_ (i := 32) (N := some 148) (v := ?_) (a' := ?_) #[true, true, true, true, false, false, false, false, false, true, true, true, false, false, false, true, true, true, true, false, false, false, false, false, true, true, true, false, false, false, false, false, true, false, false, false] rfl rfl (any_of HT_.out (by kernel_rfl)) (fun _ _ _ h => h) (Or.inl ⟨by rfl, ?_⟩) ?_ ?_
                      rotate_left
                      · intro w'
                        go_simp
                        with_reducible rfl
                      rotate_left
                      · simp only [Act.put, List.setIfInBounds_toArray, List.set_cons_zero, List.set_cons_succ, i64_w, i32_w]
                        rfl
                      refine take_ (i := 4) (N := some 120) (v := ?_) (a' := ?_) #[true, true, true, true, true, false, false, false, false, true, true, true, false, false, false, true, true, true, true, false, false, false, false, false, true, true, true, false, false, false, false, false, true, false, false, false] rfl rfl (take_ofW HT_.out HW_.out (by kernel_rfl)) (fun _ _ _ h => h) (Or.inl ⟨by rfl, ?_⟩) hHeld ?_ ?_
                      rotate_left
                      · rintro w' ⟨s0, s1, s2⟩
                        go_simp
                        with_reducible rfl
                      rotate_left
                      · simp only [Act.put, List.setIfInBounds_toArray, List.set_cons_zero, List.set_cons_succ, i64_w, i32_w]
                        rfl
                      refine pure_ (i := 5) (N := some 121) (v := ?_) (a' := ?_) #[true, true, true, true, true, true, false, false, false, true, true, true, false, false, false, true, true, true, true, false, false, false, false, false, true, true, true, false, false, false, false, false, true, false, false, false] rfl rfl (any_of HT_.out (by kernel_rfl)) (fun _ _ _ h => h) (Or.inl ⟨by rfl, ?_⟩) ?_ ?_
                      rotate_left
                      · intro w'
                        go_simp
                        with_reducible rfl
                      rotate_left
                      · simp only [Act.put, List.setIfInBounds_toArray, List.set_cons_zero, List.set_cons_succ, i64_w, i32_w]
                        rfl
                      refine pure_ (i := 6) (N := some 122) (v := ?_) (a' := ?_) #[true, true, true, true, true, true, true, false, false, true, true, true, false, false, false, true, true, true, true, false, false, false, false, false, true, true, true, false, false, false, false, false, true, false, false, false] rfl rfl (any_of HT_.out (by kernel_rfl)) (fun _ _ _ h => h) (Or.inl ⟨by rfl, ?_⟩) ?_ ?_
                      rotate_left
                      · intro w'
                        go_simp
                        with_reducible rfl
                      rotate_left
                      · simp only [Act.put, List.setIfInBounds_toArray, List.set_cons_zero, List.set_cons_succ, i64_w, i32_w]
                        rfl
                      refine pure_ (i := 7) (N := some 123) (v := ?_) (a' := ?_) #[true, true, true, true, true, true, true, true, false, true, true, true, false, false, false, true, true, true, true, false, false, false, false, false, true, true, true, false, false, false, false, false, true, false, false, false] rfl rfl (any_of HT_.out (by kernel_rfl)) (fun _ _ _ h => h) (Or.inl ⟨by rfl, ?_⟩) ?_ ?_
                      rotate_left
                      · intro w'
                        go_simp
                        with_reducible rfl
                      rotate_left
                      · simp only [Act.put, List.setIfInBounds_toArray, List.set_cons_zero, List.set_cons_succ, i64_w, i32_w]
                        rfl
                      refine take_ (i := 8) (N := some 124) (v := ?_) (a' := ?_) #[true, true, true, true, true, true, true, true, true, true, true, true, false, false, false, true, true, true, true, false, false, false, false, false, true, true, true, false, false, false, false, false, true, false, false, false] rfl rfl (take_ofW HT_.out HW_.out (by kernel_rfl)) (fun _ _ _ h => h) (Or.inl ⟨by rfl, ?_⟩) hHeld ?_ ?_
                      rotate_left
                      · rintro w' ⟨s0, s1, s2⟩
                        go_simp
                        with_reducible rfl
                      rotate_left
                      · simp only [Act.put, List.setIfInBounds_toArray, List.set_cons_zero, List.set_cons_succ, i64_w, i32_w]
                        rfl
                      refine take_ (i := 12) (N := some 128) (v := ?_) (a' := ?_) #[true, true, true, true, true, true, true, true, true, true, true, true, true, false, false, true, true, true, true, false, false, false, false, false, true, true, true, false, false, false, false, false, true, false, false, false] rfl rfl (take_ofW HT_.out HW_.out (by kernel_rfl)) (fun _ _ _ h => h) (Or.inl ⟨by rfl, ?_⟩) hHeld ?_ ?_
                      rotate_left
                      · rintro w' ⟨s0, s1, s2⟩
                        go_simp
                        with_reducible rfl
                      rotate_left
                      · simp only [Act.put, List.setIfInBounds_toArray, List.set_cons_zero, List.set_cons_succ, i64_w, i32_w]
                        rfl
                      refine pure_ (i := 13) (N := some 129) (v := ?_) (a' := ?_) #[true, true, true, true, true, true, true, true, true, true, true, true, true, true, false, true, true, true, true, false, false, false, false, false, true, true, true, false, false, false, false, false, true, false, false, false] rfl rfl (any_of HT_.out (by kernel_rfl)) (fun _ _ _ h => h) (Or.inl ⟨by rfl, ?_⟩) ?_ ?_
                      rotate_left
                      · intro w'
                        go_simp
                        with_reducible rfl
                      rotate_left
                      · simp only [Act.put, List.setIfInBounds_toArray, List.set_cons_zero, List.set_cons_succ, i64_w, i32_w]
                        rfl
                      refine pure_ (i := 14) (N := some 130) (v := ?_) (a' := ?_) #[true, true, true, true, true, true, true, true, true, true, true, true, true, true, true, true, true, true, true, false, false, false, false, false, true, true, true, false, false, false, false, false, true, false, false, false] rfl rfl (any_of HT_.out (by kernel_rfl)) (fun _ _ _ h => h) (Or.inl ⟨by rfl, ?_⟩) ?_ ?_
                      rotate_left
                      · intro w'
                        go_simp
                        with_reducible rfl
                      rotate_left
                      · simp only [Act.put, List.setIfInBounds_toArray, List.set_cons_zero, List.set_cons_succ, i64_w, i32_w]
                        rfl
                      refine take_ (i := 19) (N := some 135) (v := ?_) (a' := ?_) #[true, true, true, true, true, true, true, true, true, true, true, true, true, true, true, true, true, true, true, true, false, false, false, false, true, true, true, false, false, false, false, false, true, false, false, false] rfl rfl (take_ofW HT_.out HW_.out (by kernel_rfl)) (fun _ _ _ h => h) (Or.inl ⟨by rfl, ?_⟩) hHeld ?_ ?_
                      rotate_left
                      · rintro w' ⟨s0, s1, s2⟩
                        go_simp
                        with_reducible rfl
                      rotate_left
                      · simp only [Act.put, List.setIfInBounds_toArray, List.set_cons_zero, List.set_cons_succ, i64_w, i32_w]
                        rfl
                      refine pure_ (i := 20) (N := some 136) (v := ?_) (a' := ?_) #[true, true, true, true, true, true, true, true, true, true, true, true, true, true, true, true, true, true, true, true, true, false, false, false, true, true, true, false, false, false, false, false, true, false, false, false] rfl rfl (any_of HT_.out (by kernel_rfl)) (fun _ _ _ h => h) (Or.inl ⟨by rfl, ?_⟩) ?_ ?_
                      rotate_left
                      · intro w'
                        go_simp
                        with_reducible rfl
                      rotate_left
                      · simp only [Act.put, List.setIfInBounds_toArray, List.set_cons_zero, List.set_cons_succ, i64_w, i32_w]
                        rfl
                      refine pure_ (i := 21) (N := some 137) (v := ?_) (a' := ?_) #[true, true, true, true, true, true, true, true, true, true, true, true, true, true, true, true, true, true, true, true, true, true, false, false, true, true, true, false, false, false, false, false, true, false, false, false] rfl rfl (any_of HT_.out (by kernel_rfl)) (fun _ _ _ h => h) (Or.inl ⟨by rfl, ?_⟩) ?_ ?_
                      rotate_left
                      · intro w'
                        go_simp
                        with_reducible rfl
                      rotate_left
                      · simp only [Act.put, List.setIfInBounds_toArray, List.set_cons_zero, List.set_cons_succ, i64_w, i32_w]
                        rfl
                      refine pure_ (i := 22) (N := some 138) (v := ?_) (a' := ?_) #[true, true, true, true, true, true, true, true, true, true, true, true, true, true, true, true, true, true, true, true, true, true, true, false, true, true, true, false, false, false, false, false, true, false, false, false] rfl rfl (any_of HT_.out (by kernel_rfl)) (fun _ _ _ h => h) (Or.inl ⟨by rfl, ?_⟩) ?_ ?_
                      rotate_left
                      · intro w'
                        go_simp
                        with_reducible rfl
                      rotate_left
                      · simp only [Act.put, List.setIfInBounds_toArray, List.set_cons_zero, List.set_cons_succ, i64_w, i32_w]
                        rfl
                      refine take_ (i := 23) (N := some 139) (v := ?_) (a' := ?_) #[true, true, true, true, true, true, true, true, true, true, true, true, true, true, true, true, true, true, true, true, true, true, true, true, true, true, true, false, false, false, false, false, true, false, false, false] rfl rfl (take_ofW HT_.out HW_.out (by kernel_rfl)) (fun _ _ _ h => h) (Or.inl ⟨by rfl, ?_⟩) hHeld ?_ ?_
                      rotate_left
                      · rintro w' ⟨s0, s1, s2⟩
                        go_simp
                        with_reducible rfl
                      rotate_left
                      · simp only [Act.put, List.setIfInBounds_toArray, List.set_cons_zero, List.set_cons_succ, i64_w, i32_w]
                        rfl
                      refine take_ (i := 27) (N := some 143) (v := ?_) (a' := ?_) #[true, true, true, true, true, true, true, true, true, true, true, true, true, true, true, true, true, true, true, true, true, true, true, true, true, true, true, true, false, false, false, false, true, false, false, false] rfl rfl (take_ofW HT_.out HW_.out (by kernel_rfl)) (fun _ _ _ h => h) (Or.inl ⟨by rfl, ?_⟩) hHeld ?_ ?_
                      rotate_left
                      · rintro w' ⟨s0, s1, s2⟩
                        go_simp
                        with_reducible rfl
                      rotate_left
                      · simp only [Act.put, List.setIfInBounds_toArray, List.set_cons_zero, List.set_cons_succ, i64_w, i32_w]
                        rfl
                      refine pure_ (i := 28) (N := some 144) (v := ?_) (a' := ?_) #[true, true, true, true, true, true, true, true, true, true, true, true, true, true, true, true, true, true, true, true, true, true, true, true, true, true, true, true, true, false, false, false, true, false, false, false] rfl rfl (any_of HT_.out (by kernel_rfl)) (fun _ _ _ h => h) (Or.inl ⟨by rfl, ?_⟩) ?_ ?_
                      rotate_left
                      · intro w'
                        go_simp
                        with_reducible rfl
                      rotate_left
                      · simp only [Act.put, List.setIfInBounds_toArray, List.set_cons_zero, List.set_cons_succ, i64_w, i32_w]
                        rfl
                      refine pure_ (i := 29) (N := some 145) (v := ?_) (a' := ?_) #[true, true, true, true, true, true, true, true, true, true, true, true, true, true, true, true, true, true, true, true, true, true, true, true, true, true, true, true, true, true, false, false, true, false, false, false] rfl rfl (any_of HT_.out (by kernel_rfl)) (fun _ _ _ h => h) (Or.inl ⟨by rfl, ?_⟩) ?_ ?_
                      rotate_left
                      · intro w'
                        go_simp
                        with_reducible rfl
                      rotate_left
                      · simp only [Act.put, List.setIfInBounds_toArray, List.set_cons_zero, List.set_cons_succ, i64_w, i32_w]
                        rfl
                      refine pure_ (i := 30) (N := some 146) (v := ?_) (a' := ?_) #[true, true, true, true, true, true, true, true, true, true, true, true, true, true, true, true, true, true, true, true, true, true, true, true, true, true, true, true, true, true, true, false, true, false, false, false] rfl rfl (any_of HT_.out (by kernel_rfl)) (fun _ _ _ h => h) (Or.inl ⟨by rfl, ?_⟩) ?_ ?_
                      rotate_left
                      · intro w'
                        go_simp
                        with_reducible rfl
                      rotate_left
                      · simp only [Act.put, List.setIfInBounds_toArray, List.set_cons_zero, List.set_cons_succ, i64_w, i32_w]
                        rfl
                      refine take_ (i := 31) (N := some 147) (v := ?_) (a' := ?_) #[true, true, true, true, true, true, true, true, true, true, true, true, true, true, true, true, true, true, true, true, true, true, true, true, true, true, true, true, true, true, true, true, true, false, false, false] rfl rfl (take_ofW HT_.out HW_.out (by kernel_rfl)) (fun _ _ _ h => h) (Or.inl ⟨by rfl, ?_⟩) hHeld ?_ ?_
                      rotate_left
                      · rintro w' ⟨s0, s1, s2⟩
                        go_simp
                        with_reducible rfl
                      rotate_left
                      · simp only [Act.put, List.setIfInBounds_toArray, List.set_cons_zero, List.set_cons_succ, i64_w, i32_w]
                        rfl
                      refine pure_ (i := 33) (N := some 149) (v := ?_) (a' := ?_) #[true, true, true, true, true, true, true, true, true, true, true, true, true, true, true, true, true, true, true, true, true, true, true, true, true, true, true, true, true, true, true, true, true, true, false, false] rfl rfl (any_of HT_.out (by kernel_rfl)) (fun _ _ _ h => h) (Or.inl ⟨by rfl, ?_⟩) ?_ ?_
                      rotate_left
                      · intro w'
                        go_simp
                        with_reducible rfl
                      rotate_left
                      · simp only [Act.put, List.setIfInBounds_toArray, List.set_cons_zero, List.set_cons_succ, i64_w, i32_w]
                        rfl
                      refine pure_ (i := 34) (N := some 150) (v := ?_) (a' := ?_) #[true, true, true, true, true, true, true, true, true, true, true, true, true, true, true, true, true, true, true, true, true, true, true, true, true, true, true, true, true, true, true, true, true, true, true, false] rfl rfl (any_of HT_.out (by kernel_rfl)) (fun _ _ _ h => h) (Or.inl ⟨by rfl, ?_⟩) ?_ ?_
                      rotate_left
                      · intro w'
                        go_simp
                        with_reducible rfl
                      rotate_left
                      · simp only [Act.put, List.setIfInBounds_toArray, List.set_cons_zero, List.set_cons_succ, i64_w, i32_w]
                        rfl
                      refine last_ (i := 35) (N := none) #[true, true, true, true, true, true, true, true, true, true, true, true, true, true, true, true, true, true, true, true, true, true, true, true, true, true, true, true, true, true, true, true, true, true, true, true] rfl rfl (one_of HT_.out (by kernel_rfl)) (by decide) (fun K hK => ?_)
                      refine skip_ (w1 := ?_) (by rfl) rfl ?_ ?_
                      rotate_left
                      · go_simp
                        rfl
                      refine hK.out _ _ ?_
                      clear hK K
                      refine done_ (done_of HT_.out (by kernel_rfl)) ?_
                      go_wp2_with (first | (go_at_call 18; refine Calls.mono HQ2.out ?_; rintro e w12 ⟨rfl, hb12⟩; rw [HCF.out]; have HB12 := Aside0.mk (below_then HBF.out HBF.out.size hb12); clear hb12))
                      go_ret
                      exact ⟨rfl, HB12.out⟩

                    · have hnd : decide ((t : Int) < 0) = false := decide_eq_false (Int.not_lt.mpr (Int.natCast_nonneg t))
                      have hm4 := HM4.out
                      go_wp2_with (first
                        | ((with_reducible refine gate_builtin (b := .append) (xs := #[.tmp 86, .tmp 87]) rfl ?_); refine Kd.R_append_rows KH (w0 := w5) w5.heap.size rfl (.tmp 86) (.tmp 87) 22 25 (.slice none 0 0) 24 rfl Try.underlying22 Go.Proofs.Ytjolnjckgoilpaa.PRa.info25 rfl (by decide) (by omega) u13 (hdrs q m b c) [(some ⟨p0, 0, none⟩, m, m), (some ⟨p1, 0, none⟩, m, m)] _ _ _ (fun _ => True) (fun _ => False) rfl rfl HH.out HPC.out (fun _ _ h => h) (fun _ h => h.elim) (fun _ _ => trivial) HB.out HB.out.size (by rw [hdrs_length]; omega) ?_
                           intro v3 w8 ho hb hg hat
                           rw [← HEH.out] at ho
                           obtain ⟨ab, cap, rfl, hab, hab2, hab3⟩ := Kd.R_form ho (by rw [hdrs_length]; omega)
                           have HCAP := Aside0.mk (Kd.R_reads' ho).2.1
                           have HY8 := Aside0.mk (HY2.out.over HH.out hg)
                           have HB58 := Aside0.mk hb
                           rw [hdrs_length] at ho HCAP ⊢
                           have HH8 := Aside0.mk ho
                           clear ho hb hg hat HH HY2 HPC HEH HB
                           have HC8 := Aside0.mk (HC5.out.below HB58.out)
                           have HCQ := Aside0.mk (check18_ok w8 gc q HC8.out h1 h2 (some ⟨ab, 0, none⟩) cap l (q + 2) (KR_of_KH (by have := (Kd.R_reads' (n := q + 2) HH8.out).2.2; rwa [hdrs_length] at this) HY8.out.toRows) rfl HCAP.out m (by omega) HOA.out HLA.out (HZS.out l HLK.out HLA.out).1 (HZS.out l HLK.out HLA.out).2))
                        | (go_at_call 18; refine Calls.mono HCQ.out ?_; rintro e w9 ⟨rfl, hb9⟩; rw [HCH.out]; have HB9 := Aside0.mk hb9; have HBw9 := Aside0.mk (below_then (below_then HB5.out HB5.out.size HB58.out) (by have := HB5.out.size; have := HB58.out.size; omega) hb9); have x9 := pw_cell_below HBw9.out HX0.out; have hq0 : (0 : Int) < (q : Int) := (by omega); clear hb9 HCQ))
                      have HK9 := Aside0.mk (by have := (Kd.R_reads' (n := q + 2) HH8.out).2.2; rw [hdrs_length] at this; exact Kd.C_below this HB9.out : KH.C w9 (some ⟨ab, 0, none⟩) (q + 2) (hdrs (q + 2) m b2 c2))
                      have ch := KH_at HK9.out HIQ.out (hdrs_at HIQ.out)
                      have HY9 := Aside0.mk (HY8.out.below HB9.out)
                      have HC9 := HY9.out.cell HIQ.out HJM.out HOA.out
                      obtain ⟨cb, fb⟩ := HC9
                      have hxr := xor_nat _ _ (okB_at HOA.out i jj).1 HBY.out
                      have HVV := Aside0.mk (GfM.xor_lt _ _ (okB_at HOA.out i jj).1 HBY.out)
                      have HCF := Aside0.mk (HCP.out i jj HIQ.out HJM.out)
                      have HPL := Aside0.mk (fun (v : Nat) => HY9.out.put HIQ.out jj ((v : Nat) : Int))
                      have HGE := Aside0.mk (HB2.out i HIQ.out)
                      have HBL := Aside0.mk (HY9.out.block HIQ.out)
                      have HB49 := Aside0.mk (below_then (below_then HP5.out.below HP5.out.below.size HB58.out) (by have := HP5.out.below.size; have := HB58.out.size; omega) HB9.out)
                      obtain ⟨vv, hvv⟩ : ∃ vv, byt l i jj ^^^ by_ = vv := ⟨_, rfl⟩
                      rw [hvv] at hxr HVV HCF
                      clear hvv
                      generalize hyy : byt l i jj = yy at hxr cb
                      clear hyy
                      obtain ⟨bi, hbi⟩ : ∃ bi, b2 i = bi := ⟨_, rfl⟩
                      obtain ⟨ci, hci⟩ : ∃ ci, c2 i = ci := ⟨_, rfl⟩
                      rw [hbi] at ch cb fb HPL HGE HBL
                      rw [hci] at ch
                      clear hbi hci
                      have HKF := Aside0.mk (Kd.R_drew (Kd.R_set (Kd.R_below HH8.out HB9.out) HBL.out.2.2.choose_spec (by simp [KH, Kd.scalar]) jj (.int .u8 ((vv : Nat) : Int))))
                      have HYF := Aside0.mk ((HPL.out vv).below (below_drew (Below.refl _ _)))
                      have HBF := Aside0.mk (below_drew (below_set (j := jj) (v := .int .u8 ((vv : Nat) : Int)) HBw9.out HBL.out.1))
                      have HQ2 := Aside0.mk (check18_ok ((w9.setCell ⟨bi, jj, none⟩ (.int .u8 ((vv : Nat) : Int))).drew) gc q (HC4.out.below (below_drew (below_set HB49.out HGE.out))) h1 h2 (some ⟨ab, 0, none⟩) cap (putL l i jj vv) (q + 2) (KR_of_KH (by have := (Kd.R_reads' (n := q + 2) HKF.out).2.2; rwa [hdrs_length] at this) HYF.out.toRows) rfl HCAP.out m (by omega) (putL_ok HOA.out HVV.out) (fun p hp => by rw [putL_lens (by rw [HLK.out]; exact HIQ.out)]; exact HLA.out p hp) (HZS.out _ (by rw [putL_len, HLK.out]) (fun p hp => by rw [putL_lens (by rw [HLK.out]; exact HIQ.out)]; exact HLA.out p hp)).1 (HZS.out _ (by rw [putL_len, HLK.out]) (fun p hp => by rw [putL_lens (by rw [HLK.out]; exact HIQ.out)]; exact HLA.out p hp)).2)
                      replace ch : w9.cell? ⟨ab, i, none⟩ = some (.slice (some ⟨bi, 0, none⟩) m ci) := ch
                      clear HK9 HKF HYF HPL HBL HY9 HH8 HCP HZS HCH
                      have hqn : 0 < q := by omega
                      refine start_ (n := 36) (S := fun w' => w'.cell? ad = some (.slice A0 m c0) ∧ w'.cell? ⟨ab, i, none⟩ = some (.slice (some ⟨bi, 0, none⟩) m ci) ∧ w'.cell? ⟨bi, jj, none⟩ = some (.int .u8 (yy : Int))) (ds := [35]) #[false, false, false, false, false, false, false, false, false, false, false, false, false, false, false, false, false, false, false, false, false, false, false, false, false, false, false, false, false, false, false, false, false, false, false, false] (by kernel_rfl) rfl rfl ⟨x9, ch, cb⟩ (fun hHeld => ?_)
                      refine with_tabW finds7.tab28 finds7.bits28 (fun HT_ HW_ => ?_)
                      refine pure_ (i := 0) (N := some 116) (v := ?_) (a' := ?_) #[true, false, false, false, false, false, false, false, false, false, false, false, false, false, false, false, false, false, false, false, false, false, false, false, false, false, false, false, false, false, false, false, false, false, false, false] rfl rfl (any_of HT_.out (by kernel_rfl)) (fun _ _ _ h => h) (Or.inl ⟨by rfl, ?_⟩) ?_ ?_
                      rotate_left
                      · intro w'
                        go_simp
                        with_reducible rfl
                      rotate_left
                      · simp only [Act.put, List.setIfInBounds_toArray, List.set_cons_zero, List.set_cons_succ, i64_w, i32_w]
                        rfl
                      refine pure_ (i := 1) (N := some 117) (v := ?_) (a' := ?_) #[true, true, false, false, false, false, false, false, false, false, false, false, false, false, false, false, false, false, false, false, false, false, false, false, false, false, false, false, false, false, false, false, false, false, false, false] rfl rfl (any_of HT_.out (by kernel_rfl)) (fun _ _ _ h => h) (Or.inl ⟨by rfl, ?_⟩) ?_ ?_
                      rotate_left
                      · intro w'
                        go_simp
                        with_reducible rfl
                      rotate_left
                      · simp only [Act.put, List.setIfInBounds_toArray, List.set_cons_zero, List.set_cons_succ, i64_w, i32_w]
                        rfl
                      refine pure_ (i := 2) (N := some 118) (v := ?_) (a' := ?_) #[true, true, true, false, false, false, false, false, false, false, false, false, false, false, false, false, false, false, false, false, false, false, false, false, false, false, false, false, false, false, false, false, false, false, false, false] rfl rfl (any_of HT_.out (by kernel_rfl)) (fun _ _ _ h => h) (Or.inl ⟨by rfl, ?_⟩) ?_ ?_
                      rotate_left
                      · intro w'
                        go_simp
                        with_reducible rfl
                      rotate_left
                      · simp only [Act.put, List.setIfInBounds_toArray, List.set_cons_zero, List.set_cons_succ, i64_w, i32_w]
                        rfl
                      refine pure_ (i := 3) (N := some 119) (v := ?_) (a' := ?_) #[true, true, true, true, false, false, false, false, false, false, false, false, false, false, false, false, false, false, false, false, false, false, false, false, false, false, false, false, false, false, false, false, false, false, false, false] rfl rfl (any_of HT_.out (by kernel_rfl)) (fun _ _ _ h => h) (Or.inl ⟨by rfl, ?_⟩) ?_ ?_
                      rotate_left
                      · intro w'
                        go_simp
                        with_reducible rfl
                      rotate_left
                      · simp only [Act.put, List.setIfInBounds_toArray, List.set_cons_zero, List.set_cons_succ, i64_w, i32_w]
                        rfl
                      refine pure_ (i := 9) (N := some 125) (v := ?_) (a' := ?_) #[true, true, true, true, false, false, false, false, false, true, false, false, false, false, false, false, false, false, false, false, false, false, false, false, false, false, false, false, false, false, false, false, false, false, false, false] rfl rfl (any_of HT_.out (by kernel_rfl)) (fun _ _ _ h => h) (Or.inl ⟨by rfl, ?_⟩) ?_ ?_
                      rotate_left
                      · intro w'
                        go_simp
                        with_reducible rfl
                      rotate_left
                      · simp only [Act.put, List.setIfInBounds_toArray, List.set_cons_zero, List.set_cons_succ, i64_w, i32_w]
                        rfl
                      refine pure_ (i := 10) (N := some 126) (v := ?_) (a' := ?_) #[true, true, true, true, false, false, false, false, false, true, true, false, false, false, false, false, false, false, false, false, false, false, false, false, false, false, false, false, false, false, false, false, false, false, false, false] rfl rfl (any_of HT_.out (by kernel_rfl)) (fun _ _ _ h => h) (Or.inl ⟨by rfl, ?_⟩) ?_ ?_
                      rotate_left
                      · intro w'
                        go_simp
                        with_reducible rfl
                      rotate_left
                      · simp only [Act.put, List.setIfInBounds_toArray, List.set_cons_zero, List.set_cons_succ, i64_w, i32_w]
                        rfl
                      refine pure_ (i := 11) (N := some 127) (v := ?_) (a' := ?_) #[true, true, true, true, false, false, false, false, false, true, true, true, false, false, false, false, false, false, false, false, false, false, false, false, false, false, false, false, false, false, false, false, false, false, false, false] rfl rfl (any_of HT_.out (by kernel_rfl)) (fun _ _ _ h => h) (Or.inl ⟨by rfl, ?_⟩) ?_ ?_
                      rotate_left
                      · intro w'
                        go_simp
                        with_reducible rfl
                      rotate_left
                      · simp only [Act.put, List.setIfInBounds_toArray, List.set_cons_zero, List.set_cons_succ, i64_w, i32_w]
                        rfl
                      refine pure_ (i := 15) (N := some 131) (v := ?_) (a' := ?_) #[true, true, true, true, false, false, false, false, false, true, true, true, false, false, false, true, false, false, false, false, false, false, false, false, false, false, false, false, false, false, false, false, false, false, false, false] rfl rfl (any_of HT_.out (by kernel_rfl)) (fun _ _ _ h => h) (Or.inl ⟨by rfl, ?_⟩) ?_ ?_
                      rotate_left
                      · intro w'
                        go_simp
                        with_reducible rfl
                      rotate_left
                      · simp only [Act.put, List.setIfInBounds_toArray, List.set_cons_zero, List.set_cons_succ, i64_w, i32_w]
                        rfl
                      refine pure_ (i := 16) (N := some 132) (v := ?_) (a' := ?_) #[true, true, true, true, false, false, false, false, false, true, true, true, false, false, false, true, true, false, false, false, false, false, false, false, false, false, false, false, false, false, false, false, false, false, false, false] rfl rfl (any_of HT_.out (by kernel_rfl)) (fun _ _ _ h => h) (Or.inl ⟨by rfl, ?_⟩) ?_ ?_
                      rotate_left
                      · intro w'
                        go_simp
                        with_reducible rfl
                      rotate_left
                      · simp only [Act.put, List.setIfInBounds_toArray, List.set_cons_zero, List.set_cons_succ, i64_w, i32_w]
                        rfl
                      refine pure_ (i := 17) (N := some 133) (v := ?_) (a' := ?_) #[true, true, true, true, false, false, false, false, false, true, true, true, false, false, false, true, true, true, false, false, false, false, false, false, false, false, false, false, false, false, false, false, false, false, false, false] rfl rfl (any_of HT_.out (by kernel_rfl)) (fun _ _ _ h => h) (Or.inl ⟨by rfl, ?_⟩) ?_ ?_
                      rotate_left
                      · intro w'
                        go_simp
                        with_reducible rfl
                      rotate_left
                      · simp only [Act.put, List.setIfInBounds_toArray, List.set_cons_zero, List.set_cons_succ, i64_w, i32_w]
                        rfl
                      refine pure_ (i := 18) (N := some 134) (v := ?_) (a' := ?_) #[true, true, true, true, false, false, false, false, false, true, true, true, false, false, false, true, true, true, true, false, false, false, false, false, false, false, false, false, false, false, false, false, false, false, false, false] rfl rfl (any_of HT_.out (by kernel_rfl)) (fun _ _ _ h => h) (Or.inl ⟨by rfl, ?_⟩) ?_ ?_
                      rotate_left
                      · intro w'
                        go_simp
                        with_reducible rfl
                      rotate_left
                      · simp only [Act.put, List.setIfInBounds_toArray, List.set_cons_zero, List.set_cons_succ, i64_w, i32_w]
                        rfl
                      refine pure_ (i := 24) (N := some 140) (v := ?_) (a' := ?_) #[true, true, true, true, false, false, false, false, false, true, true, true, false, false, false, true, true, true, true, false, false, false, false, false, true, false, false, false, false, false, false, false, false, false, false, false] rfl rfl (any_of HT_.out (by kernel_rfl)) (fun _ _ _ h => h) (Or.inl ⟨by rfl, ?_⟩) ?_ ?_
                      rotate_left
                      · intro w'
                        go_simp
                        with_reducible rfl
                      rotate_left
                      · simp only [Act.put, List.setIfInBounds_toArray, List.set_cons_zero, List.set_cons_succ, i64_w, i32_w]
                        rfl
                      refine pure_ (i := 25) (N := some 141) (v := ?_) (a' := ?_) #[true, true, true, true, false, false, false, false, false, true, true, true, false, false, false, true, true, true, true, false, false, false, false, false, true, true, false, false, false, false, false, false, false, false, false, false] rfl rfl (any_of HT_.out (by kernel_rfl)) (fun _ _ _ h => h) (Or.inl ⟨by rfl, ?_⟩) ?_ ?_
                      rotate_left
                      · intro w'
                        go_simp
                        with_reducible rfl
                      rotate_left
                      · simp only [Act.put, List.setIfInBounds_toArray, List.set_cons_zero, List.set_cons_succ, i64_w, i32_w]
                        rfl
                      refine pure_ (i := 26) (N := some 142) (v := ?_) (a' := ?_) #[true, true, true, true, false, false, false, false, false, true, true, true, false, false, false, true, true, true, true, false, false, false, false, false, true, true, true, false, false, false, false, false, false, false, false, false] rfl rfl (any_of HT_.out (by kernel_rfl)) (fun _ _ _ h => h) (Or.inl ⟨by rfl, ?_⟩) ?_ ?_
                      rotate_left
                      · intro w'
                        go_simp
                        with_reducible rfl
                      rotate_left
                      · simp only [Act.put, List.setIfInBounds_toArray, List.set_cons_zero, List.set_cons_succ, i64_w, i32_w]
                        rfl
                      refine pure_ (i := 32) (N := some 148) (v := ?_) (a' := ?_) #[true, true, true, true, false, false, false, false, false, true, true, true, false, false, false, true, true, true, true, false, false, false, false, false, true, true, true, false, false, false, false, false, true, false, false, false] rfl rfl (any_of HT_.out (by kernel_rfl)) (fun _ _ _ h => h) (Or.inl ⟨by rfl, ?_⟩) ?_ ?_
                      rotate_left
                      · intro w'
                        go_simp
                        with_reducible rfl
                      rotate_left
                      · simp only [Act.put, List.setIfInBounds_toArray, List.set_cons_zero, List.set_cons_succ, i64_w, i32_w]
                        rfl
                      refine take_ (i := 4) (N := some 120) (v := ?_) (a' := ?_) #[true, true, true, true, true, false, false, false, false, true, true, true, false, false, false, true, true, true, true, false, false, false, false, false, true, true, true, false, false, false, false, false, true, false, false, false] rfl rfl (take_ofW HT_.out HW_.out (by kernel_rfl)) (fun _ _ _ h => h) (Or.inl ⟨by rfl, ?_⟩) hHeld ?_ ?_
                      rotate_left
                      · rintro w' ⟨s0, s1, s2⟩
                        go_simp
                        with_reducible rfl
                      rotate_left
                      · simp only [Act.put, List.setIfInBounds_toArray, List.set_cons_zero, List.set_cons_succ, i64_w, i32_w]
                        rfl
                      refine pure_ (i := 5) (N := some 121) (v := ?_) (a' := ?_) #[true, true, true, true, true, true, false, false, false, true, true, true, false, false, false, true, true, true, true, false, false, false, false, false, true, true, true, false, false, false, false, false, true, false, false, false] rfl rfl (any_of HT_.out (by kernel_rfl)) (fun _ _ _ h => h) (Or.inl ⟨by rfl, ?_⟩) ?_ ?_
                      rotate_left
                      · intro w'
                        go_simp
                        with_reducible rfl
                      rotate_left
                      · simp only [Act.put, List.setIfInBounds_toArray, List.set_cons_zero, List.set_cons_succ, i64_w, i32_w]
                        rfl
                      refine pure_ (i := 6) (N := some 122) (v := ?_) (a' := ?_) #[true, true, true, true, true, true, true, false, false, true, true, true, false, false, false, true, true, true, true, false, false, false, false, false, true, true, true, false, false, false, false, false, true, false, false, false] rfl rfl (any_of HT_.out (by kernel_rfl)) (fun _ _ _ h => h) (Or.inl ⟨by rfl, ?_⟩) ?_ ?_
                      rotate_left
                      · intro w'
                        go_simp
                        with_reducible rfl
                      rotate_left
                      · simp only [Act.put, List.setIfInBounds_toArray, List.set_cons_zero, List.set_cons_succ, i64_w, i32_w]
                        rfl
                      refine pure_ (i := 7) (N := some 123) (v := ?_) (a' := ?_) #[true, true, true, true, true, true, true, true, false, true, true, true, false, false, false, true, true, true, true, false, false, false, false, false, true, true, true, false, false, false, false, false, true, false, false, false] rfl rfl (any_of HT_.out (by kernel_rfl)) (fun _ _ _ h => h) (Or.inl ⟨by rfl, ?_⟩) ?_ ?_
                      rotate_left
                      · intro w'
                        go_simp
                        with_reducible rfl
                      rotate_left
                      · simp only [Act.put, List.setIfInBounds_toArray, List.set_cons_zero, List.set_cons_succ, i64_w, i32_w]
                        rfl
                      refine take_ (i := 8) (N := some 124) (v := ?_) (a' := ?_) #[true, true, true, true, true, true, true, true, true, true, true, true, false, false, false, true, true, true, true, false, false, false, false, false, true, true, true, false, false, false, false, false, true, false, false, false] rfl rfl (take_ofW HT_.out HW_.out (by kernel_rfl)) (fun _ _ _ h => h) (Or.inl ⟨by rfl, ?_⟩) hHeld ?_ ?_
                      rotate_left
                      · rintro w' ⟨s0, s1, s2⟩
                        go_simp
                        with_reducible rfl
                      rotate_left
                      · simp only [Act.put, List.setIfInBounds_toArray, List.set_cons_zero, List.set_cons_succ, i64_w, i32_w]
                        rfl
                      refine take_ (i := 12) (N := some 128) (v := ?_) (a' := ?_) #[true, true, true, true, true, true, true, true, true, true, true, true, true, false, false, true, true, true, true, false, false, false, false, false, true, true, true, false, false, false, false, false, true, false, false, false] rfl rfl (take_ofW HT_.out HW_.out (by kernel_rfl)) (fun _ _ _ h => h) (Or.inl ⟨by rfl, ?_⟩) hHeld ?_ ?_
                      rotate_left
                      · rintro w' ⟨s0, s1, s2⟩
                        go_simp
                        with_reducible rfl
                      rotate_left
                      · simp only [Act.put, List.setIfInBounds_toArray, List.set_cons_zero, List.set_cons_succ, i64_w, i32_w]
                        rfl
                      refine pure_ (i := 13) (N := some 129) (v := ?_) (a' := ?_) #[true, true, true, true, true, true, true, true, true, true, true, true, true, true, false, true, true, true, true, false, false, false, false, false, true, true, true, false, false, false, false, false, true, false, false, false] rfl rfl (any_of HT_.out (by kernel_rfl)) (fun _ _ _ h => h) (Or.inl ⟨by rfl, ?_⟩) ?_ ?_
                      rotate_left
                      · intro w'
                        go_simp
                        with_reducible rfl
                      rotate_left
                      · simp only [Act.put, List.setIfInBounds_toArray, List.set_cons_zero, List.set_cons_succ, i64_w, i32_w]
                        rfl
                      refine pure_ (i := 14) (N := some 130) (v := ?_) (a' := ?_) #[true, true, true, true, true, true, true, true, true, true, true, true, true, true, true, true, true, true, true, false, false, false, false, false, true, true, true, false, false, false, false, false, true, false, false, false] rfl rfl (any_of HT_.out (by kernel_rfl)) (fun _ _ _ h => h) (Or.inl ⟨by rfl, ?_⟩) ?_ ?_
                      rotate_left
                      · intro w'
                        go_simp
                        with_reducible rfl
                      rotate_left
                      · simp only [Act.put, List.setIfInBounds_toArray, List.set_cons_zero, List.set_cons_succ, i64_w, i32_w]
                        rfl
                      refine take_ (i := 19) (N := some 135) (v := ?_) (a' := ?_) #[true, true, true, true, true, true, true, true, true, true, true, true, true, true, true, true, true, true, true, true, false, false, false, false, true, true, true, false, false, false, false, false, true, false, false, false] rfl rfl (take_ofW HT_.out HW_.out (by kernel_rfl)) (fun _ _ _ h => h) (Or.inl ⟨by rfl, ?_⟩) hHeld ?_ ?_
                      rotate_left
                      · rintro w' ⟨s0, s1, s2⟩
                        go_simp
                        with_reducible rfl
                      rotate_left
                      · simp only [Act.put, List.setIfInBounds_toArray, List.set_cons_zero, List.set_cons_succ, i64_w, i32_w]
                        rfl
                      refine pure_ (i := 20) (N := some 136) (v := ?_) (a' := ?_) #[true, true, true, true, true, true, true, true, true, true, true, true, true, true, true, true, true, true, true, true, true, false, false, false, true, true, true, false, false, false, false, false, true, false, false, false] rfl rfl (any_of HT_.out (by kernel_rfl)) (fun _ _ _ h => h) (Or.inl ⟨by rfl, ?_⟩) ?_ ?_
                      rotate_left
                      · intro w'
                        go_simp
                        with_reducible rfl
                      rotate_left
                      · simp only [Act.put, List.setIfInBounds_toArray, List.set_cons_zero, List.set_cons_succ, i64_w, i32_w]
                        rfl
                      refine pure_ (i := 21) (N := some 137) (v := ?_) (a' := ?_) #[true, true, true, true, true, true, true, true, true, true, true, true, true, true, true, true, true, true, true, true, true, true, false, false, true, true, true, false, false, false, false, false, true, false, false, false] rfl rfl (any_of HT_.out (by kernel_rfl)) (fun _ _ _ h => h) (Or.inl ⟨by rfl, ?_⟩) ?_ ?_
                      rotate_left
                      · intro w'
                        go_simp
                        with_reducible rfl
                      rotate_left
                      · simp only [Act.put, List.setIfInBounds_toArray, List.set_cons_zero, List.set_cons_succ, i64_w, i32_w]
                        rfl
                      refine pure_ (i := 22) (N := some 138) (v := ?_) (a' := ?_) #[true, true, true, true, true, true, true, true, true, true, true, true, true, true, true, true, true, true, true, true, true, true, true, false, true, true, true, false, false, false, false, false, true, false, false, false] rfl rfl (any_of HT_.out (by kernel_rfl)) (fun _ _ _ h => h) (Or.inl ⟨by rfl, ?_⟩) ?_ ?_
                      rotate_left
                      · intro w'
                        go_simp
                        with_reducible rfl
                      rotate_left
                      · simp only [Act.put, List.setIfInBounds_toArray, List.set_cons_zero, List.set_cons_succ, i64_w, i32_w]
                        rfl
                      refine take_ (i := 23) (N := some 139) (v := ?_) (a' := ?_) #[true, true, true, true, true, true, true, true, true, true, true, true, true, true, true, true, true, true, true, true, true, true, true, true, true, true, true, false, false, false, false, false, true, false, false, false] rfl rfl (take_ofW HT_.out HW_.out (by kernel_rfl)) (fun _ _ _ h => h) (Or.inl ⟨by rfl, ?_⟩) hHeld ?_ ?_
                      rotate_left
                      · rintro w' ⟨s0, s1, s2⟩
                        go_simp
                        with_reducible rfl
                      rotate_left
                      · simp only [Act.put, List.setIfInBounds_toArray, List.set_cons_zero, List.set_cons_succ, i64_w, i32_w]
                        rfl
                      refine take_ (i := 27) (N := some 143) (v := ?_) (a' := ?_) #[true, true, true, true, true, true, true, true, true, true, true, true, true, true, true, true, true, true, true, true, true, true, true, true, true, true, true, true, false, false, false, false, true, false, false, false] rfl rfl (take_ofW HT_.out HW_.out (by kernel_rfl)) (fun _ _ _ h => h) (Or.inl ⟨by rfl, ?_⟩) hHeld ?_ ?_
                      rotate_left
                      · rintro w' ⟨s0, s1, s2⟩
                        go_simp
                        with_reducible rfl
                      rotate_left
                      · simp only [Act.put, List.setIfInBounds_toArray, List.set_cons_zero, List.set_cons_succ, i64_w, i32_w]
                        rfl
                      refine pure_ (i := 28) (N := some 144) (v := ?_) (a' := ?_) #[true, true, true, true, true, true, true, true, true, true, true, true, true, true, true, true, true, true, true, true, true, true, true, true, true, true, true, true, true, false, false, false, true, false, false, false] rfl rfl (any_of HT_.out (by kernel_rfl)) (fun _ _ _ h => h) (Or.inl ⟨by rfl, ?_⟩) ?_ ?_
                      rotate_left
                      · intro w'
                        go_simp
                        with_reducible rfl
                      rotate_left
                      · simp only [Act.put, List.setIfInBounds_toArray, List.set_cons_zero, List.set_cons_succ, i64_w, i32_w]
                        rfl
                      refine pure_ (i := 29) (N := some 145) (v := ?_) (a' := ?_) #[true, true, true, true, true, true, true, true, true, true, true, true, true, true, true, true, true, true, true, true, true, true, true, true, true, true, true, true, true, true, false, false, true, false, false, false] rfl rfl (any_of HT_.out (by kernel_rfl)) (fun _ _ _ h => h) (Or.inl ⟨by rfl, ?_⟩) ?_ ?_
                      rotate_left
                      · intro w'
                        go_simp
                        with_reducible rfl
                      rotate_left
                      · simp only [Act.put, List.setIfInBounds_toArray, List.set_cons_zero, List.set_cons_succ, i64_w, i32_w]
                        rfl
                      refine pure_ (i := 30) (N := some 146) (v := ?_) (a' := ?_) #[true, true, true, true, true, true, true, true, true, true, true, true, true, true, true, true, true, true, true, true, true, true, true, true, true, true, true, true, true, true, true, false, true, false, false, false] rfl rfl (any_of HT_.out (by kernel_rfl)) (fun _ _ _ h => h) (Or.inl ⟨by rfl, ?_⟩) ?_ ?_
                      rotate_left
                      · intro w'
                        go_simp
                        with_reducible rfl
                      rotate_left
                      · simp only [Act.put, List.setIfInBounds_toArray, List.set_cons_zero, List.set_cons_succ, i64_w, i32_w]
                        rfl
                      refine take_ (i := 31) (N := some 147) (v := ?_) (a' := ?_) #[true, true, true, true, true, true, true, true, true, true, true, true, true, true, true, true, true, true, true, true, true, true, true, true, true, true, true, true, true, true, true, true, true, false, false, false] rfl rfl (take_ofW HT_.out HW_.out (by kernel_rfl)) (fun _ _ _ h => h) (Or.inl ⟨by rfl, ?_⟩) hHeld ?_ ?_
                      rotate_left
                      · rintro w' ⟨s0, s1, s2⟩
                        go_simp
                        with_reducible rfl
                      rotate_left
                      · simp only [Act.put, List.setIfInBounds_toArray, List.set_cons_zero, List.set_cons_succ, i64_w, i32_w]
                        rfl
                      refine pure_ (i := 33) (N := some 149) (v := ?_) (a' := ?_) #[true, true, true, true, true, true, true, true, true, true, true, true, true, true, true, true, true, true, true, true, true, true, true, true, true, true, true, true, true, true, true, true, true, true, false, false] rfl rfl (any_of HT_.out (by kernel_rfl)) (fun _ _ _ h => h) (Or.inl ⟨by rfl, ?_⟩) ?_ ?_
                      rotate_left
                      · intro w'
                        go_simp
                        with_reducible rfl
                      rotate_left
                      · simp only [Act.put, List.setIfInBounds_toArray, List.set_cons_zero, List.set_cons_succ, i64_w, i32_w]
                        rfl
                      refine pure_ (i := 34) (N := some 150) (v := ?_) (a' := ?_) #[true, true, true, true, true, true, true, true, true, true, true, true, true, true, true, true, true, true, true, true, true, true, true, true, true, true, true, true, true, true, true, true, true, true, true, false] rfl rfl (any_of HT_.out (by kernel_rfl)) (fun _ _ _ h => h) (Or.inl ⟨by rfl, ?_⟩) ?_ ?_
                      rotate_left
                      · intro w'
                        go_simp
                        with_reducible rfl
                      rotate_left
                      · simp only [Act.put, List.setIfInBounds_toArray, List.set_cons_zero, List.set_cons_succ, i64_w, i32_w]
                        rfl
                      refine last_ (i := 35) (N := none) #[true, true, true, true, true, true, true, true, true, true, true, true, true, true, true, true, true, true, true, true, true, true, true, true, true, true, true, true, true, true, true, true, true, true, true, true] rfl rfl (one_of HT_.out (by kernel_rfl)) (by decide) (fun K hK => ?_)
                      refine skip_ (w1 := ?_) (by rfl) rfl ?_ ?_
                      rotate_left
                      · go_simp
                        rfl
                      refine hK.out _ _ ?_
                      clear hK K
                      refine done_ (done_of HT_.out (by kernel_rfl)) ?_
                      go_wp2_with (first | (go_at_call 18; refine Calls.mono HQ2.out ?_; rintro e w12 ⟨rfl, hb12⟩; rw [HCF.out]; have HB12 := Aside0.mk (below_then HBF.out HBF.out.size hb12); clear hb12))
                      go_ret
                      exact ⟨rfl, HB12.out⟩

    · have d1 : decide ((k : Int) < 1) = false := decide_eq_false (by omega)
      have d2 : decide ((32 : Int) < (k : Int)) = true := decide_eq_true (by omega)
      go_wp2_with (first | (go_at_call 8; refine Calls.mono (HK.out _) ?_; rintro e w1 ⟨rfl, hb⟩; have HB := Aside0.mk hb; clear hb))
      go_ret
      exact ⟨rfl, HB.out⟩
  · have d1 : decide ((k : Int) < 1) = true := decide_eq_true (by omega)
    go_wp2_with (first | (go_at_call 8; refine Calls.mono (HK.out _) ?_; rintro e w1 ⟨rfl, hb⟩; have HB := Aside0.mk hb; clear hb))
    go_ret
    exact ⟨rfl, HB.out⟩
theorem len_sum (l : List (List Int)) : l.length ≤ (l.map fun r => r.length + 1).sum ∧ (l.map List.length).sum ≤ (l.map fun r => r.length + 1).sum := by
  induction l with
  | nil => simp
  | cons a l ih => simp only [List.map_cons, List.sum_cons, List.length_cons]; omega
/-- The law, as its frame wants it. -/
theorem rsFinds_calls (A0 : Option Addr) (c0 : Nat) (l0 : List (List Int)) (a1 : Int) (a2 : Int) (r : Bool) (w : World) (hr0 : Kd.C (Kd.slice 5 (Kd.int .u8)) w A0 l0.length l0) (hc0 : l0.length ≤ c0) (h : (okB l0 = true ∧ (Lit.int .i64 a1).wf = true ∧ (Lit.int .u8 a2).wf = true) ∧ (l0.map fun r => r.length + 1).sum ≤ 1048576 ∧ r = true) :
    Calls Try.prog 7 #[.slice A0 l0.length c0, .int .i64 a1, .int .u8 a2] w fun e w' => e = .returned (.bool r) ∧ Below w.heap.size w w' := by
  obtain ⟨⟨ok0, w1, w2⟩, h0, rfl⟩ := h
  have q0 := len_sum l0
  obtain ⟨n, hn, rfl⟩ := GaFacts.byte w2
  exact finds7 w A0 c0 l0 hr0 hc0 ok0 (by omega) (by omega) a1 w1 n hn
end Go.Proofs.Ytjolnjckgoilpaa.Rs
namespace Go.Proofs.Ytjolnjckgoilpaa.Pure
open Go.Proofs.Ytjolnjckgoilpaa.Gf Go.RowKit
theorem wf_byte {x : Int} (h : (Lit.int .u8 x).wf = true) : 0 ≤ x ∧ x < 256 := by
  obtain ⟨n, hn, rfl⟩ := GaFacts.byte h
  omega
theorem okB_of {l : List (List Int)} (h : ∀ r ∈ l, ∀ x ∈ r, (Lit.int .u8 x).wf = true) : okB l = true := by
  unfold okB
  simp only [List.all_eq_true]
  intro r hr x hx
  have := wf_byte (h r hr x hx)
  simp [this]
theorem RsFinds (l0 : List (List Int)) (a1 a2 : Int) (w0 : ∀ r ∈ l0, ∀ x ∈ r, (Lit.int .u8 x).wf = true) (hb : (l0.map fun r => r.length + 1).sum ≤ 1048576) (w1 : (Lit.int .i64 a1).wf = true) (w2 : (Lit.int .u8 a2).wf = true) : (okB l0 = true ∧ (Lit.int .i64 a1).wf = true ∧ (Lit.int .u8 a2).wf = true) ∧ (l0.map fun r => r.length + 1).sum ≤ 1048576 ∧ true = true := ⟨⟨okB_of w0, w1, w2⟩, hb, rfl⟩
end Go.Proofs.Ytjolnjckgoilpaa.Pure
