/-
  The law ElidePlays: its walk.
-/
import Derived.Test.YtpfkfnphjbgohaaElPl1
import Derived.Test.YtpfkfnphjbgohaaElOrs
import Derived.Test.YtpfkfnphjbgohaaElP23
import Derived.Deep.Cut
import Derived.Deep.CutRange
set_option linter.unusedVariables false
set_option linter.unusedSimpArgs false
namespace Go.Proofs.Ytpfkfnphjbgohaa.El
open Go.RowKit Go.Proofs.YtpfkfnphjbgohaaW.PrintWords Go.Proofs.YtpfkfnphjbgohaaW.PrintLast Go.Proofs.YtpfkfnphjbgohaaW.PrintMore Go.Proofs.Ytpfkfnphjbgohaa.PEa
attribute [local go_sem] binS_leq binS_gtr binS_geq max2_int min2_int max_two min_two maxS_two minS_two
theorem J.start {w W W' : World} {gs gr : Nat} {S R : List S27} (hr : Er w W gr R) (hb : Below W.heap.size W W') (hs : Es W W' gs S) : J w W' gs gr S R := by
  obtain ⟨vr, k1, k2, k3, k4⟩ := hr
  obtain ⟨vs, h1, h2, h3, h4⟩ := hs
  refine ⟨vs, vr, h1, blk_below k1 hb, Kd.R_lower h2 k3.size, Kd.R_below k2 hb, fun k hk he => ?_, below_then k3 k3.size hb, by have := k3.size; omega, k4⟩
  have e1 := Kd.R_base h2 k hk
  have e2 := Kd.R_lt k2 k he
  omega
theorem at_u64 {w : World} {A : Option Addr} {n : Nat} {fs : List Int} (h : Kd.C (Kd.int .u64) w A n fs) {i : Nat} (hi : i < n) : ∃ ad, A = some ad ∧ w.cell? (ad.add i) = some (.int .u64 (rd fs (i : Int))) := by
  obtain ⟨ad, c, e, _, hK, hc⟩ := Kd.C_get h (0 : Int) (i : Int) (by omega) (by omega)
  obtain rfl := hK
  refine ⟨ad, e, ?_⟩
  have := hc 0 _ rfl
  rwa [show (Kd.int .u64).sz = 1 from rfl, Nat.mul_one, Nat.add_zero, Int.toNat_natCast] at this
theorem chk12 (w : World) (e : S27) : Calls Try.prog 12 #[.agg #[.string e.f0, .string e.f1, .int .u64 e.f2]] w fun r w' => r = .returned (.int .i64 (chk e)) ∧ Below w.heap.size w w' := check12 w e
theorem chk23 (w : World) (e : S27) : Calls Try.prog 23 #[.agg #[.string e.f0, .string e.f1, .int .u64 e.f2]] w fun r w' => r = .returned (.int .i64 (chk e)) ∧ Below w.heap.size w w' := check23 w e
def plays6.T19 : Bool × List (List Nat × List Nat) := (true, [([], []), ([], []), ([], []), ([1, 2], [1, 2]), ([3], [3]), ([0, 4], [0, 4]), ([], []), ([], []), ([], []), ([7, 8], [7, 8]), ([9], [9]), ([6, 10, 5], [6, 10]), ([5, 11], [5, 11]), ([12, 11], [12]), ([13], [13]), ([13], [13]), ([14, 15, 13], [13, 14, 15]), ([16, 13], [13, 16]), ([17, 13, 13], [13, 17]), ([13], [13]), ([13], [13]), ([19, 20, 13], [13, 19, 20]), ([21, 13], [13, 21]), ([22, 18, 13], [13, 22]), ([18, 23, 13], [13, 18, 23]), ([13, 24], [13, 24])])
def plays6.B19 : List Nat := [0, 0, 0, 6, 14, 31, 0, 0, 0, 384, 896, 2047, 4095, 8191, 16383, 16383, 65535, 131071, 262143, 16383, 16383, 1589247, 3686399, 8388607, 16777215, 33554431]
theorem plays6.tab19 : rtab .any (opsOf Try.f6 19) = plays6.T19 := by kernel_rfl
theorem plays6.bits19 : waitsOk plays6.T19.2 plays6.B19 = true := by kernel_rfl
def plays6.T21 : Bool × List (List Nat × List Nat) := (true, [([], []), ([], []), ([1], [1]), ([0, 2], [0, 2]), ([3], [3]), ([4], [4]), ([4], [4]), ([5, 6, 4], [4, 5, 6]), ([7, 4], [4, 7]), ([8, 4], [4, 8]), ([4, 9], [4, 9]), ([10, 4], [10]), ([11], [11]), ([11], [11]), ([11], [11]), ([13, 14, 11], [11, 13, 14]), ([15, 11], [11, 15]), ([16, 11], [11, 16]), ([12, 17, 11, 11], [11, 12, 17]), ([11], [11]), ([11], [11]), ([11], [11]), ([20, 21, 11], [11, 20, 21]), ([22, 11], [11, 22]), ([23, 11], [11, 23]), ([19, 24, 18, 11], [11, 19, 24]), ([18, 25, 11], [11, 18, 25]), ([11, 26], [11, 26])])
def plays6.B21 : List Nat := [0, 0, 2, 7, 15, 31, 31, 127, 255, 511, 1023, 2047, 4095, 4095, 4095, 28671, 61439, 126975, 262143, 4095, 4095, 4095, 3149823, 7344127, 15732735, 33554431, 67108863, 134217727]
theorem plays6.tab21 : rtab .any (opsOf Try.f6 21) = plays6.T21 := by kernel_rfl
theorem plays6.bits21 : waitsOk plays6.T21.2 plays6.B21 = true := by kernel_rfl
def plays6.T28 : Bool × List (List Nat × List Nat) := (true, [([], []), ([], []), ([1], [1]), ([0, 2], [0, 2]), ([3], [3]), ([], []), ([], []), ([5, 6], [5, 6]), ([7], [7]), ([4, 8], [4, 8]), ([], []), ([], []), ([11], [11]), ([10, 12], [10, 12]), ([13], [13]), ([], []), ([], []), ([15, 16], [15, 16]), ([17], [17]), ([14, 18, 9], [14, 18]), ([9, 19], [9, 19])])
def plays6.B28 : List Nat := [0, 0, 2, 7, 15, 0, 0, 96, 224, 511, 0, 0, 2048, 7168, 15360, 0, 0, 98304, 229376, 524287, 1048575]
theorem plays6.tab28 : rtab .any (opsOf Try.f6 28) = plays6.T28 := by kernel_rfl
theorem plays6.bits28 : waitsOk plays6.T28.2 plays6.B28 = true := by kernel_rfl
theorem wp_thenF {K : Act → World → Prop} {Q : Exit → Act → World → Prop} {cd : Code} {a : Act} {w : World} (h : Code.wp Try.prog cd (Exit.then K fun _ _ _ => False) a w) : Code.wp Try.prog cd (Exit.then K Q) a w :=
  Code.wp_mono (fun e a w h => by cases e <;> first | exact h | exact h.elim) h
set_option maxHeartbeats 32000000 in
set_option maxRecDepth 100000 in
theorem plays6 (w : World) (Aa : Option Addr) (ca : Nat) (first : List S27) (hCa : Kd.C k27 w Aa first.length first) (hca : first.length ≤ ca) (hwa : ∀ x ∈ first, (Lit.int .u64 x.f2).wf = true) (hla : first.length ≤ 1048576)
    (A : Option Addr) (c : Nat) (l : List S27) (hC : Kd.C k27 w A l.length l) (hc : l.length ≤ c) (hlw : ∀ x ∈ l, (Lit.int .u64 x.f2).wf = true) (hl : l.length ≤ 1048576)
    (Af : Option Addr) (cf : Nat) (fs : List Int) (hCf : Kd.C (Kd.int .u64) w Af fs.length fs) (hcf : fs.length ≤ cf) (hfw : ∀ x ∈ fs, (Lit.int .u64 x).wf = true) (hfl : fs.length ≤ 1048576)
    (key : ByteArray) (hkb : key.size ≤ 1048576) (seq : Int) (hsw : (Lit.int .u64 seq).wf = true) (lo : ByteArray) (hlob : lo.size ≤ 1048576) (hi : ByteArray) (hhib : hi.size ≤ 1048576) :
    Calls Try.prog 6 #[.slice Aa first.length ca, .slice A l.length c, .slice Af fs.length cf, .string key, .int .u64 seq, .string lo, .string hi] w fun r w' => r = .returned (.bool true) ∧ Below w.heap.size w w' := by
  have HFa := Aside0.mk (fun (W : World) (hb : Below w.heap.size w W) => few8 W Aa ca first (Kd.C_below hCa hb) hca (by omega))
  have HFl := Aside0.mk (fun (W : World) (hb : Below w.heap.size w W) => few8 W A c l (Kd.C_below hC hb) hc (by omega))
  have HNw := Aside0.mk (fun (W : World) (hb : Below w.heap.size w W) (h : first.length ≤ 40000) => new_ok (c := ca) (Kd.C_below hCa hb) h)
  obtain ⟨na, hna⟩ : ∃ na, first.length = na := ⟨_, rfl⟩
  obtain ⟨n, hn⟩ : ∃ n, l.length = n := ⟨_, rfl⟩
  obtain ⟨nf, hnf⟩ : ∃ nf, fs.length = nf := ⟨_, rfl⟩
  rw [hna] at HFa HNw hCa hla ⊢
  rw [hn] at HFl hC hl ⊢
  rw [hnf] at hCf hfl ⊢
  have HNa := Aside0.mk hna
  have HN := Aside0.mk hn
  have HCa := Aside0.mk hCa
  have HC := Aside0.mk hC
  have HCf := Aside0.mk hCf
  have HNf := Aside0.mk hnf
  clear hCa hca hwa hC hc hlw hCf hcf hfw hsw hna hn hnf
  go_enter Try.func6, Try.ntmps6
  go_wp2_with (go_at_call 7; refine (known7 _).mono ?_; rintro r w1 ⟨rfl, hb⟩; have HB := Aside0.mk hb; clear hb)
  go_at_call 8
  refine (HFa.out _ HB.out).mono ?_
  rintro _ w3 ⟨r, rfl, hr, hd⟩
  have Hr := Aside0.mk hr
  replace HB := Aside0.mk (below_then HB.out HB.out.size hd.below)
  clear hr hd
  cases r
  · go_wp2_with fail
    go_ret
    exact ⟨rfl, HB.out⟩
  go_wp2_with fail
  go_at_call 8
  refine (HFl.out _ HB.out).mono ?_
  rintro _ w4 ⟨r, rfl, hr2, hd⟩
  have Hr2 := Aside0.mk hr2
  replace HB := Aside0.mk (below_then HB.out HB.out.size hd.below)
  clear hr2 hd
  cases r
  · go_wp2_with fail
    go_ret
    exact ⟨rfl, HB.out⟩
  have hla2 : na ≤ 120 := Hr.out (by first | trivial | rfl)
  have hl2 : n ≤ 120 := Hr2.out (by first | trivial | rfl)
  clear hl hla Hr Hr2
  by_cases hsz : (key.size : Int) + lo.size + hi.size ≤ 3000
  · have hszd : decide ((3000 : Int) < (key.size : Int) + lo.size + hi.size) = false := decide_eq_false (by omega)
    go_wp2_with ((with_reducible refine gate_dst (N := 44) rfl ?_); refine box_event ?hg (N := 44) ?hd (cs := #[.slice none 0 0]) (t := 42) ?hr ?_; (case hd => rfl); (case hg => rfl); (case hr => first | (go_simp; done) | (go_simp; rfl)); intro gr hgr w5 hbox hb; have HE := Aside0.mk (show Er w w5 gr (first.take 0) from ⟨_, hbox, Kd.R_nil _ _ _ _ _, below_then HB.out HB.out.size hb, by have := HB.out.size; omega⟩); clear hb hbox hgr HB)
    clear hszd hsz hkb hlob hhib
    go_loopw [16, 17] (fun bb i W => ∃ (k : Nat) (bd : Bool), k ≤ na ∧ i = .int .i64 k ∧ bb = .bool bd ∧ Aside0 (bd = true → ¬ allOk first = true) ∧ Aside0 (bd = false → ∀ j : Nat, j < k → (rd_T27 first j).f0 < (rd_T27 first j).f1) ∧ Aside0 (Below w.heap.size w W) ∧ Aside0 (bd = false → Er w W gr (first.take k))) (fun _ i _ => na - (intOf i).toNat)
    case atStart => exact ⟨0, false, Nat.zero_le _, rfl, rfl, ⟨fun h => by cases h⟩, ⟨fun _ j hj => absurd hj (Nat.not_lt_zero _)⟩, ⟨HE.out.below⟩, ⟨fun _ => HE.out⟩⟩
    case round =>
      clear HE
      obtain ⟨k, bd, hk, rfl, rfl, HA1, HA2, HB, HE⟩ := hrel
      by_cases hkn : k < na
      · clear hk
        obtain ⟨x, hx⟩ : ∃ x, rd_T27 first (k : Int) = x := ⟨_, rfl⟩
        obtain ⟨ad, eA, x0, x1, x2⟩ := at_T27 HCa.out (k : Int) (by omega) (by omega)
        subst eA
        rw [hx] at x0 x1 x2
        rw [Int.toNat_natCast] at x0 x1 x2
        replace x0 := pw_cell_below HB.out x0
        replace x1 := pw_cell_below HB.out x1
        replace x2 := pw_cell_below HB.out x2
        have HX := Aside0.mk hx
        clear hx
        cases bd
        · by_cases hv : x.f0 < x.f1
          · have HV := Aside0.mk hv
            have HT := Aside0.mk (take_next (l := first) (k := k) (by rw [HNa.out]; exact hkn) HX.out)
            clear hv
            go_wp2_with (go_at_call 16; refine (raddE (HE.out rfl) (by rw [List.length_take]; omega) HV.out).mono ?_; rintro r w6 ⟨rfl, hE⟩; have HE6 := Aside0.mk hE; clear hE)
            go_roundw
            case measure => simp [intOf]; omega
            case rel =>
              refine ⟨k + 1, false, by omega, by go_num, rfl, ⟨fun h => by cases h⟩, ⟨fun _ j hj => ?_⟩, ⟨HE6.out.below⟩, ⟨fun _ => by rw [HT.out]; exact HE6.out⟩⟩
              rcases Nat.lt_or_ge j k with h | h
              · exact HA2.out (by first | trivial | rfl) j h
              · obtain rfl : j = k := by omega
                rw [HX.out]; exact HV.out
          · have HV := Aside0.mk hv
            have HOK := Aside0.mk (ok_not (l := first) (k := k) (by rw [HNa.out]; exact hkn) (by rw [HX.out]; exact hv))
            clear hv
            go_wp2_with (go_at_call 16; refine (radd16n _ _ x HV.out).mono ?_; rintro r w6 ⟨rfl, hb⟩; have HB6 := Aside0.mk (below_then HB.out HB.out.size hb); clear hb)
            go_roundw
            case measure => simp [intOf]; omega
            case rel => exact ⟨k + 1, true, by omega, by go_num, rfl, ⟨fun _ => HOK.out⟩, ⟨fun h => by cases h⟩, HB6, ⟨fun h => by cases h⟩⟩
        · go_wp2_with fail
          go_roundw
          case measure => simp [intOf]; omega
          case rel => exact ⟨k + 1, true, by omega, by go_num, rfl, HA1, ⟨fun h => by cases h⟩, HB, ⟨fun h => by cases h⟩⟩
      · obtain rfl : k = na := by omega
        cases bd
        · have hok := ok_upto HNa.out (HA2.out (by first | trivial | rfl))
          have hv : ∀ x ∈ first, x.f0 < x.f1 := fun x hx => by simpa using List.all_eq_true.mp hok x hx
          have hE := HE.out (by first | trivial | rfl)
          rw [← HNa.out, List.take_length] at hE
          have HE2 := Aside0.mk hE
          have HOK := Aside0.mk hok
          have HP := Aside0.mk (Pl.start (B := ends first ++ ends l) (m := 500) hv (fun x hx => List.mem_append.mpr (.inl hx)) (by rw [HNa.out]; omega))
          have HBl := Aside0.mk (show (ends first ++ ends l).length ≤ 500 by rw [List.length_append, ends_length, ends_length, HNa.out, HN.out]; omega)
          have HBm := Aside0.mk (fun (x : S27) (hx : x ∈ l) => And.intro (List.mem_append.mpr (.inr (ends_of x hx).1) : x.f0 ∈ ends first ++ ends l) (List.mem_append.mpr (.inr (ends_of x hx).2) : x.f1 ∈ ends first ++ ends l))
          generalize ends first ++ ends l = B at *
          clear HE hE hok hv HA1 HA2
          go_wp2_with fail
          go_at_call 9
          refine (HNw.out _ HB.out (by omega)).mono ?_
          rintro r w7 ⟨hb, hr⟩
          rw [if_pos HOK.out] at hr
          obtain ⟨gs, rfl, hEs⟩ := hr
          have HJ := Aside0.mk (J.start HE2.out hb hEs)
          clear hEs hb HE2 HB HCa HNa HNw HOK
          generalize addAll first = S at *
          go_wp2_with fail
          go_loopw [20] (fun i W => ∃ (j : Nat) (S R : List S27), j ≤ n ∧ i = .int .i64 j ∧ Aside0 (J w W gs gr S R) ∧ Aside0 (Pl B S R (500 + j))) (fun i _ => n - (intOf i).toNat)
          case atStart => exact ⟨0, S, first, Nat.zero_le _, rfl, HJ, HP⟩
          case round =>
            clear HJ HP
            clear S
            obtain ⟨j, S, R, hj, rfl, HJ, HP⟩ := hrel
            have HSl := Aside0.mk (show S.length ≤ 100000 by have := HP.out.lenS; have := HBl.out; omega)
            have HRl := Aside0.mk (show R.length ≤ 1000000 by have := HP.out.len; omega)
            by_cases hjn : j < n
            · clear hj
              obtain ⟨x, hx⟩ : ∃ x, rd_T27 l (j : Int) = x := ⟨_, rfl⟩
              obtain ⟨ad, eA, x0, x1, x2⟩ := at_T27 HC.out (j : Int) (by omega) (by omega)
              subst eA
              rw [hx] at x0 x1 x2
              rw [Int.toNat_natCast] at x0 x1 x2
              have X0 := Aside0.mk x0
              have X1 := Aside0.mk x1
              have X2 := Aside0.mk x2
              replace x0 := pw_cell_below HJ.out.below x0
              replace x1 := pw_cell_below HJ.out.below x1
              replace x2 := pw_cell_below HJ.out.below x2
              have HPa := Aside0.mk (by
                have hm := HBm.out x (by rw [← hx]; exact rd_mem (by rw [HN.out]; exact hjn))
                exact HP.out.add x hm.1 hm.2)
              clear hx HP
              go_wp2_with fail
              refine start_ (n := 26) (S := fun w' => w'.cell? (ad.add (j * 3)) = some (.string x.f0) ∧ w'.cell? ⟨(ad.add (j * 3)).block, (ad.add (j * 3)).off + 1, none⟩ = some (.string x.f1) ∧ w'.cell? ⟨(ad.add (j * 3)).block, (ad.add (j * 3)).off + 2, none⟩ = some (.int .u64 x.f2)) (ds := [23]) #[false, false, false, false, false, false, false, false, false, false, false, false, false, false, false, false, false, false, false, false, false, false, false, false, false, false] (by kernel_rfl) rfl rfl ⟨x0, x1, x2⟩ (fun hHeld => ?_)
              refine with_tabW plays6.tab19 plays6.bits19 (fun HT_ HW_ => ?_)
              refine pure_ (i := 0) (N := some 85) (v := ?_) (a' := ?_) #[true, false, false, false, false, false, false, false, false, false, false, false, false, false, false, false, false, false, false, false, false, false, false, false, false, false] rfl rfl (any_of HT_.out (by kernel_rfl)) (fun _ _ _ h => h) (Or.inl ⟨by rfl, ?_⟩) ?_ ?_
              rotate_left
              · intro w'
                go_simp
                with_reducible rfl
              rotate_left
              · simp only [Act.put, List.setIfInBounds_toArray, List.set_cons_zero, List.set_cons_succ, i64_w, i32_w]
                rfl
              refine pure_ (i := 1) (N := some 86) (v := ?_) (a' := ?_) #[true, true, false, false, false, false, false, false, false, false, false, false, false, false, false, false, false, false, false, false, false, false, false, false, false, false] rfl rfl (any_of HT_.out (by kernel_rfl)) (fun _ _ _ h => h) (Or.inl ⟨by rfl, ?_⟩) ?_ ?_
              rotate_left
              · intro w'
                go_simp
                with_reducible rfl
              rotate_left
              · simp only [Act.put, List.setIfInBounds_toArray, List.set_cons_zero, List.set_cons_succ, i64_w, i32_w]
                rfl
              refine pure_ (i := 2) (N := some 87) (v := ?_) (a' := ?_) #[true, true, true, false, false, false, false, false, false, false, false, false, false, false, false, false, false, false, false, false, false, false, false, false, false, false] rfl rfl (any_of HT_.out (by kernel_rfl)) (fun _ _ _ h => h) (Or.inl ⟨by rfl, ?_⟩) ?_ ?_
              rotate_left
              · intro w'
                go_simp
                with_reducible rfl
              rotate_left
              · simp only [Act.put, List.setIfInBounds_toArray, List.set_cons_zero, List.set_cons_succ, i64_w, i32_w]
                rfl
              refine pure_ (i := 3) (N := some 88) (v := ?_) (a' := ?_) #[true, true, true, true, false, false, false, false, false, false, false, false, false, false, false, false, false, false, false, false, false, false, false, false, false, false] rfl rfl (any_of HT_.out (by kernel_rfl)) (fun _ _ _ h => h) (Or.inl ⟨by rfl, ?_⟩) ?_ ?_
              rotate_left
              · intro w'
                go_simp
                with_reducible rfl
              rotate_left
              · simp only [Act.put, List.setIfInBounds_toArray, List.set_cons_zero, List.set_cons_succ, i64_w, i32_w]
                rfl
              refine pure_ (i := 6) (N := some 91) (v := ?_) (a' := ?_) #[true, true, true, true, false, false, true, false, false, false, false, false, false, false, false, false, false, false, false, false, false, false, false, false, false, false] rfl rfl (any_of HT_.out (by kernel_rfl)) (fun _ _ _ h => h) (Or.inl ⟨by rfl, ?_⟩) ?_ ?_
              rotate_left
              · intro w'
                go_simp
                with_reducible rfl
              rotate_left
              · simp only [Act.put, List.setIfInBounds_toArray, List.set_cons_zero, List.set_cons_succ, i64_w, i32_w]
                rfl
              refine pure_ (i := 7) (N := some 92) (v := ?_) (a' := ?_) #[true, true, true, true, false, false, true, true, false, false, false, false, false, false, false, false, false, false, false, false, false, false, false, false, false, false] rfl rfl (any_of HT_.out (by kernel_rfl)) (fun _ _ _ h => h) (Or.inl ⟨by rfl, ?_⟩) ?_ ?_
              rotate_left
              · intro w'
                go_simp
                with_reducible rfl
              rotate_left
              · simp only [Act.put, List.setIfInBounds_toArray, List.set_cons_zero, List.set_cons_succ, i64_w, i32_w]
                rfl
              refine pure_ (i := 8) (N := some 93) (v := ?_) (a' := ?_) #[true, true, true, true, false, false, true, true, true, false, false, false, false, false, false, false, false, false, false, false, false, false, false, false, false, false] rfl rfl (any_of HT_.out (by kernel_rfl)) (fun _ _ _ h => h) (Or.inl ⟨by rfl, ?_⟩) ?_ ?_
              rotate_left
              · intro w'
                go_simp
                with_reducible rfl
              rotate_left
              · simp only [Act.put, List.setIfInBounds_toArray, List.set_cons_zero, List.set_cons_succ, i64_w, i32_w]
                rfl
              refine pure_ (i := 9) (N := some 94) (v := ?_) (a' := ?_) #[true, true, true, true, false, false, true, true, true, true, false, false, false, false, false, false, false, false, false, false, false, false, false, false, false, false] rfl rfl (any_of HT_.out (by kernel_rfl)) (fun _ _ _ h => h) (Or.inl ⟨by rfl, ?_⟩) ?_ ?_
              rotate_left
              · intro w'
                go_simp
                with_reducible rfl
              rotate_left
              · simp only [Act.put, List.setIfInBounds_toArray, List.set_cons_zero, List.set_cons_succ, i64_w, i32_w]
                rfl
              refine take_ (i := 4) (N := some 89) (v := ?_) (a' := ?_) #[true, true, true, true, true, false, true, true, true, true, false, false, false, false, false, false, false, false, false, false, false, false, false, false, false, false] rfl rfl (take_ofW HT_.out HW_.out (by kernel_rfl)) (fun _ _ _ h => h) (Or.inl ⟨by rfl, ?_⟩) hHeld ?_ ?_
              rotate_left
              · rintro w' ⟨s0, s1, s2⟩
                go_simp
                with_reducible rfl
              rotate_left
              · simp only [Act.put, List.setIfInBounds_toArray, List.set_cons_zero, List.set_cons_succ, i64_w, i32_w]
                rfl
              refine take_ (i := 10) (N := some 95) (v := ?_) (a' := ?_) #[true, true, true, true, true, false, true, true, true, true, true, false, false, false, false, false, false, false, false, false, false, false, false, false, false, false] rfl rfl (take_ofW HT_.out HW_.out (by kernel_rfl)) (fun _ _ _ h => h) (Or.inl ⟨by rfl, ?_⟩) hHeld ?_ ?_
              rotate_left
              · rintro w' ⟨s0, s1, s2⟩
                go_simp
                with_reducible rfl
              rotate_left
              · simp only [Act.put, List.setIfInBounds_toArray, List.set_cons_zero, List.set_cons_succ, i64_w, i32_w]
                rfl
              refine one_ (i := 5) (N := some 90) #[true, true, true, true, true, true, true, true, true, true, true, false, false, false, false, false, false, false, false, false, false, false, false, false, false, false] rfl rfl (one_of HT_.out (by kernel_rfl)) (by decide) (fun K hK => ?_)
              refine goes_ Try.func14 (by kernel_rfl) rfl #[.pointer (some ⟨gs, 0, none⟩), .agg #[.string x.f0, .string x.f1, .int .u64 x.f2]] (by rfl) rfl rfl (by simp only [List.map_toArray, List.map_cons, List.map_nil]; rfl) ?_
              refine Calls.mono (sAddJ (HJ.out.then_ (below_drew (Below.refl _ _))) HSl.out x) ?_
              rintro e w5 ⟨rfl, hJ5⟩
              refine ⟨_, rfl, ?_⟩
              refine hK.out _ _ ⟨pw_cell_below hJ5.below X0.out, pw_cell_below hJ5.below X1.out, pw_cell_below hJ5.below X2.out⟩ (fun hHeld => ?_)
              clear hK K
              refine norm_ (a' := ?_) ?_ ?_
              rotate_left
              · show Act.put _ (some 90) _ = _
                simp only [Act.put, List.setIfInBounds_toArray, List.set_cons_zero, List.set_cons_succ, i64_w, i32_w]
                rfl
              refine one_ (i := 11) (N := some 96) #[true, true, true, true, true, true, true, true, true, true, true, true, false, false, false, false, false, false, false, false, false, false, false, false, false, false] rfl rfl (one_of HT_.out (by kernel_rfl)) (by decide) (fun K hK => ?_)
              refine goes_ Try.func16 (by kernel_rfl) rfl #[.pointer (some ⟨gr, 0, none⟩), .agg #[.string x.f0, .string x.f1, .int .u64 x.f2]] (by rfl) rfl rfl (by simp only [List.map_toArray, List.map_cons, List.map_nil]; rfl) ?_
              refine Calls.mono (rAddJ hJ5 HRl.out x) ?_
              rintro e w11 ⟨rfl, hJ11⟩
              refine ⟨_, rfl, ?_⟩
              refine hK.out _ _ ⟨pw_cell_below hJ11.below X0.out, pw_cell_below hJ11.below X1.out, pw_cell_below hJ11.below X2.out⟩ (fun hHeld => ?_)
              clear hK K
              refine norm_ (a' := ?_) ?_ ?_
              rotate_left
              · show Act.put _ (some 96) _ = _
                simp only [Act.put, List.setIfInBounds_toArray, List.set_cons_zero, List.set_cons_succ, i64_w, i32_w]
                rfl
              refine pure_ (i := 12) (N := some 97) (v := ?_) (a' := ?_) #[true, true, true, true, true, true, true, true, true, true, true, true, true, false, false, false, false, false, false, false, false, false, false, false, false, false] rfl rfl (any_of HT_.out (by kernel_rfl)) (fun _ _ _ h => h) (Or.inl ⟨by rfl, ?_⟩) ?_ ?_
              rotate_left
              · intro w'
                go_simp
                with_reducible rfl
              rotate_left
              · simp only [Act.put, List.setIfInBounds_toArray, List.set_cons_zero, List.set_cons_succ, i64_w, i32_w]
                rfl
              refine pure_ (i := 13) (N := some 98) (v := ?_) (a' := ?_) #[true, true, true, true, true, true, true, true, true, true, true, true, true, true, false, false, false, false, false, false, false, false, false, false, false, false] rfl rfl (any_of HT_.out (by kernel_rfl)) (fun _ _ _ h => h) (Or.inl ⟨by rfl, ?_⟩) ?_ ?_
              rotate_left
              · intro w'
                go_simp
                with_reducible rfl
              rotate_left
              · simp only [Act.put, List.setIfInBounds_toArray, List.set_cons_zero, List.set_cons_succ, i64_w, i32_w]
                rfl
              refine pure_ (i := 14) (N := some 99) (v := ?_) (a' := ?_) #[true, true, true, true, true, true, true, true, true, true, true, true, true, true, true, false, false, false, false, false, false, false, false, false, false, false] rfl rfl (any_of HT_.out (by kernel_rfl)) (fun _ _ _ h => h) (Or.inl ⟨by rfl, ?_⟩) ?_ ?_
              rotate_left
              · intro w'
                go_simp
                with_reducible rfl
              rotate_left
              · simp only [Act.put, List.setIfInBounds_toArray, List.set_cons_zero, List.set_cons_succ, i64_w, i32_w]
                rfl
              refine pure_ (i := 15) (N := some 100) (v := ?_) (a' := ?_) #[true, true, true, true, true, true, true, true, true, true, true, true, true, true, true, true, false, false, false, false, false, false, false, false, false, false] rfl rfl (any_of HT_.out (by kernel_rfl)) (fun _ _ _ h => h) (Or.inl ⟨by rfl, ?_⟩) ?_ ?_
              rotate_left
              · intro w'
                go_simp
                with_reducible rfl
              rotate_left
              · simp only [Act.put, List.setIfInBounds_toArray, List.set_cons_zero, List.set_cons_succ, i64_w, i32_w]
                rfl
              refine pure_ (i := 16) (N := some 101) (v := ?_) (a' := ?_) #[true, true, true, true, true, true, true, true, true, true, true, true, true, true, true, true, true, false, false, false, false, false, false, false, false, false] rfl rfl (any_of HT_.out (by kernel_rfl)) (fun _ _ _ h => h) (Or.inl ⟨by rfl, ?_⟩) ?_ ?_
              rotate_left
              · intro w'
                go_simp
                with_reducible rfl
              rotate_left
              · simp only [Act.put, List.setIfInBounds_toArray, List.set_cons_zero, List.set_cons_succ, i64_w, i32_w]
                rfl
              refine pure_ (i := 19) (N := some 104) (v := ?_) (a' := ?_) #[true, true, true, true, true, true, true, true, true, true, true, true, true, true, true, true, true, false, false, true, false, false, false, false, false, false] rfl rfl (any_of HT_.out (by kernel_rfl)) (fun _ _ _ h => h) (Or.inl ⟨by rfl, ?_⟩) ?_ ?_
              rotate_left
              · intro w'
                go_simp
                with_reducible rfl
              rotate_left
              · simp only [Act.put, List.setIfInBounds_toArray, List.set_cons_zero, List.set_cons_succ, i64_w, i32_w]
                rfl
              refine pure_ (i := 20) (N := some 105) (v := ?_) (a' := ?_) #[true, true, true, true, true, true, true, true, true, true, true, true, true, true, true, true, true, false, false, true, true, false, false, false, false, false] rfl rfl (any_of HT_.out (by kernel_rfl)) (fun _ _ _ h => h) (Or.inl ⟨by rfl, ?_⟩) ?_ ?_
              rotate_left
              · intro w'
                go_simp
                with_reducible rfl
              rotate_left
              · simp only [Act.put, List.setIfInBounds_toArray, List.set_cons_zero, List.set_cons_succ, i64_w, i32_w]
                rfl
              refine pure_ (i := 21) (N := some 106) (v := ?_) (a' := ?_) #[true, true, true, true, true, true, true, true, true, true, true, true, true, true, true, true, true, false, false, true, true, true, false, false, false, false] rfl rfl (any_of HT_.out (by kernel_rfl)) (fun _ _ _ h => h) (Or.inl ⟨by rfl, ?_⟩) ?_ ?_
              rotate_left
              · intro w'
                go_simp
                with_reducible rfl
              rotate_left
              · simp only [Act.put, List.setIfInBounds_toArray, List.set_cons_zero, List.set_cons_succ, i64_w, i32_w]
                rfl
              refine take_ (i := 17) (N := some 102) (v := ?_) (a' := ?_) #[true, true, true, true, true, true, true, true, true, true, true, true, true, true, true, true, true, true, false, true, true, true, false, false, false, false] rfl rfl (take_ofW HT_.out HW_.out (by kernel_rfl)) (fun _ _ _ h => h) (Or.inl ⟨by rfl, ?_⟩) hHeld ?_ ?_
              rotate_left
              · rintro w' ⟨s0, s1, s2⟩
                go_simp
                with_reducible rfl
              rotate_left
              · simp only [Act.put, List.setIfInBounds_toArray, List.set_cons_zero, List.set_cons_succ, i64_w, i32_w]
                rfl
              refine take_ (i := 22) (N := some 107) (v := ?_) (a' := ?_) #[true, true, true, true, true, true, true, true, true, true, true, true, true, true, true, true, true, true, false, true, true, true, true, false, false, false] rfl rfl (take_ofW HT_.out HW_.out (by kernel_rfl)) (fun _ _ _ h => h) (Or.inl ⟨by rfl, ?_⟩) hHeld ?_ ?_
              rotate_left
              · rintro w' ⟨s0, s1, s2⟩
                go_simp
                with_reducible rfl
              rotate_left
              · simp only [Act.put, List.setIfInBounds_toArray, List.set_cons_zero, List.set_cons_succ, i64_w, i32_w]
                rfl
              refine one_ (i := 18) (N := some 103) #[true, true, true, true, true, true, true, true, true, true, true, true, true, true, true, true, true, true, true, true, true, true, true, false, false, false] rfl rfl (one_of HT_.out (by kernel_rfl)) (by decide) (fun K hK => ?_)
              refine goes_ Try.func12 (by kernel_rfl) rfl #[.agg #[.string x.f0, .string x.f1, .int .u64 x.f2]] (by rfl) rfl rfl (by simp only [List.map_toArray, List.map_cons, List.map_nil]; rfl) ?_
              refine Calls.mono (chk12 _ x) ?_
              rintro e w18 ⟨rfl, hb18⟩
              refine ⟨_, rfl, ?_⟩
              refine hK.out _ _ ⟨pw_cell_below hb18 hHeld.1, pw_cell_below hb18 hHeld.2.1, pw_cell_below hb18 hHeld.2.2⟩ (fun hHeld => ?_)
              clear hK K
              refine norm_ (a' := ?_) ?_ ?_
              rotate_left
              · show Act.put _ (some 103) _ = _
                simp only [Act.put, List.setIfInBounds_toArray, List.set_cons_zero, List.set_cons_succ, i64_w, i32_w]
                rfl
              refine last_ (i := 23) (N := some 108) #[true, true, true, true, true, true, true, true, true, true, true, true, true, true, true, true, true, true, true, true, true, true, true, true, false, false] rfl rfl (one_of HT_.out (by kernel_rfl)) (by decide) (fun K hK => ?_)
              refine goes_ Try.func23 (by kernel_rfl) rfl #[.agg #[.string x.f0, .string x.f1, .int .u64 x.f2]] (by rfl) rfl rfl (by simp only [List.map_toArray, List.map_cons, List.map_nil]; rfl) ?_
              refine Calls.mono (chk23 _ x) ?_
              rintro e w23 ⟨rfl, hb23⟩
              refine ⟨_, rfl, ?_⟩
              refine hK.out _ _ ?_
              clear hK K
              refine norm_ (a' := ?_) ?_ ?_
              rotate_left
              · show Act.put _ (some 108) _ = _
                simp only [Act.put, List.setIfInBounds_toArray, List.set_cons_zero, List.set_cons_succ, i64_w, i32_w]
                rfl
              refine pure_ (i := 24) (N := some 109) (v := ?_) (a' := ?_) #[true, true, true, true, true, true, true, true, true, true, true, true, true, true, true, true, true, true, true, true, true, true, true, true, true, false] rfl rfl (any_of HT_.out (by kernel_rfl)) (fun _ _ _ h => h) (Or.inl ⟨by rfl, ?_⟩) ?_ ?_
              rotate_left
              · intro w'
                go_simp
                with_reducible rfl
              rotate_left
              · simp only [Act.put, List.setIfInBounds_toArray, List.set_cons_zero, List.set_cons_succ, i64_w, i32_w]
                rfl
              refine pure_ (i := 25) (N := some 110) (v := ?_) (a' := ?_) #[true, true, true, true, true, true, true, true, true, true, true, true, true, true, true, true, true, true, true, true, true, true, true, true, true, true] rfl rfl (any_of HT_.out (by kernel_rfl)) (fun _ _ _ h => h) (Or.inl ⟨by rfl, ?_⟩) ?_ ?_
              rotate_left
              · intro w'
                go_simp
                with_reducible rfl
              rotate_left
              · simp only [Act.put, List.setIfInBounds_toArray, List.set_cons_zero, List.set_cons_succ, i64_w, i32_w]
                rfl
              refine done_ (done_of HT_.out (by kernel_rfl)) ?_
              have HJ9 := Aside0.mk (J.then_ (J.then_ hJ11 hb18) hb23)
              clear hHeld hJ5 hJ11 hb18 hb23 HJ HSl HRl x0 x1 x2
              have HJ := HJ9
              have HP := HPa
              clear HJ9 HPa
              obtain ⟨S1, hS1⟩ : ∃ S1, sAdd S x = S1 := ⟨_, rfl⟩
              obtain ⟨R1, hR1⟩ : ∃ R1, rAdd R x = R1 := ⟨_, rfl⟩
              rw [hS1, hR1] at HJ HP
              clear hS1 hR1
              generalize w23 = Wc at *
              go_wp2_with fail
              go_cut [138] from 79 to 201 (fun cc wx => cc = .bool false ∧ ∃ S2 R2, Aside0 (J w wx gs gr S2 R2) ∧ Aside0 (Pl B S2 R2 (500 + (j + 1))))
              case first =>
                by_cases hjf : j < nf
                · have hjfd : decide ((j : Int) < (nf : Int)) = true := decide_eq_true (by omega)
                  have hjf0 : (0 : Int) ≤ (j : Int) := by omega
                  have hjfi : (j : Int) < (nf : Int) := by omega
                  obtain ⟨adf, eF, xf⟩ := at_u64 HCf.out hjf
                  obtain ⟨f, hf⟩ : ∃ f, rd fs (j : Int) = f := ⟨_, rfl⟩
                  subst eF
                  rw [hf] at xf
                  clear hf
                  have XF := Aside0.mk xf
                  replace xf := pw_cell_below HJ.out.below xf
                  by_cases hf0 : 0 < f
                  · have hfd : decide ((0 : Int) < f) = true := decide_eq_true hf0
                    have HSl := Aside0.mk (show S1.length ≤ 100000 by have := HP.out.lenS; have := HBl.out; omega)
                    have HSl2 := Aside0.mk (show S1.length ≤ 1000000000 by have := HSl.out; omega)
                    have HRl := Aside0.mk (show R1.length ≤ 100000 by have := HP.out.len; omega)
                    have HEq := Aside0.mk HP.out.eq
                    have HsL := Aside0.mk (fun (W : World) (h : J w W gs gr S1 R1) => sListJ h HSl.out)
                    have HrL := Aside0.mk (fun (W : World) (h : J w W gs gr S1 R1) => (by have q := rListJ h HRl.out; rw [HEq.out] at q; exact q : Calls Try.prog 26 #[.pointer (some ⟨gr, 0, none⟩)] W (TellQ W S1)))
                    have HLn := Aside0.mk (fun (W : World) (h : J w W gs gr S1 R1) => sLenJ h)
                    have HsH := Aside0.mk (fun (W : World) (key : ByteArray) (seq : Int) (h : J w W gs gr S1 R1) => sHasJ h HSl.out HP.out.cano.pln key seq)
                    have HrH := Aside0.mk (fun (W : World) (key : ByteArray) (seq : Int) (h : J w W gs gr S1 R1) => (by have q := rHasJ h HRl.out key seq; rw [HP.out.has] at q; exact q : Calls Try.prog 28 #[.pointer (some ⟨gr, 0, none⟩), .string key, .int .u64 seq] W fun r w' => r = .returned (.bool (hasB S1 key seq)) ∧ Below W.heap.size W w'))
                    have HJd := Aside0.mk (HJ.out.then_ (below_drew (Below.refl _ _)))
                    clear HsL HrL HLn HsH HrH HSl2
                    refine start_ (n := 28) (S := fun w' => w'.cell? (adf.add j) = some (.int .u64 f)) (ds := [25]) #[false, false, false, false, false, false, false, false, false, false, false, false, false, false, false, false, false, false, false, false, false, false, false, false, false, false, false, false] (by kernel_rfl) rfl rfl (xf) (fun hHeld => ?_)
                    refine with_tabW plays6.tab21 plays6.bits21 (fun HT_ HW_ => ?_)
                    refine pure_ (i := 0) (N := some 111) (v := ?_) (a' := ?_) #[true, false, false, false, false, false, false, false, false, false, false, false, false, false, false, false, false, false, false, false, false, false, false, false, false, false, false, false] rfl rfl (any_of HT_.out (by kernel_rfl)) (fun _ _ _ h => h) (Or.inl ⟨by rfl, ?_⟩) ?_ ?_
                    rotate_left
                    · intro w'
                      go_simp
                      with_reducible rfl
                    rotate_left
                    · simp only [Act.put, List.setIfInBounds_toArray, List.set_cons_zero, List.set_cons_succ, i64_w, i32_w]
                      rfl
                    refine pure_ (i := 1) (N := some 112) (v := ?_) (a' := ?_) #[true, true, false, false, false, false, false, false, false, false, false, false, false, false, false, false, false, false, false, false, false, false, false, false, false, false, false, false] rfl rfl (any_of HT_.out (by kernel_rfl)) (fun _ _ _ h => h) (Or.inl ⟨by rfl, ?_⟩) ?_ ?_
                    rotate_left
                    · intro w'
                      go_simp
                      with_reducible rfl
                    rotate_left
                    · simp only [Act.put, List.setIfInBounds_toArray, List.set_cons_zero, List.set_cons_succ, i64_w, i32_w]
                      rfl
                    refine pure_ (i := 2) (N := some 113) (v := ?_) (a' := ?_) #[true, true, true, false, false, false, false, false, false, false, false, false, false, false, false, false, false, false, false, false, false, false, false, false, false, false, false, false] rfl rfl (any_of HT_.out (by kernel_rfl)) (fun _ _ _ h => h) (Or.inl ⟨by rfl, ?_⟩) ?_ ?_
                    rotate_left
                    · intro w'
                      go_simp
                      with_reducible rfl
                    rotate_left
                    · simp only [Act.put, List.setIfInBounds_toArray, List.set_cons_zero, List.set_cons_succ, i64_w, i32_w]
                      rfl
                    refine pure_ (i := 3) (N := some 114) (v := ?_) (a' := ?_) #[true, true, true, true, false, false, false, false, false, false, false, false, false, false, false, false, false, false, false, false, false, false, false, false, false, false, false, false] rfl rfl (any_of HT_.out (by kernel_rfl)) (fun _ _ _ h => h) (Or.inl ⟨by rfl, ?_⟩) ?_ ?_
                    rotate_left
                    · intro w'
                      go_simp
                      with_reducible rfl
                    rotate_left
                    · simp only [Act.put, List.setIfInBounds_toArray, List.set_cons_zero, List.set_cons_succ, i64_w, i32_w]
                      rfl
                    refine pure_ (i := 4) (N := some 115) (v := ?_) (a' := ?_) #[true, true, true, true, true, false, false, false, false, false, false, false, false, false, false, false, false, false, false, false, false, false, false, false, false, false, false, false] rfl rfl (any_of HT_.out (by kernel_rfl)) (fun _ _ _ h => h) (Or.inl ⟨by rfl, ?_⟩) ?_ ?_
                    rotate_left
                    · intro w'
                      go_simp
                      with_reducible rfl
                    rotate_left
                    · simp only [Act.put, List.setIfInBounds_toArray, List.set_cons_zero, List.set_cons_succ, i64_w, i32_w]
                      rfl
                    refine pure_ (i := 5) (N := some 116) (v := ?_) (a' := ?_) #[true, true, true, true, true, true, false, false, false, false, false, false, false, false, false, false, false, false, false, false, false, false, false, false, false, false, false, false] rfl rfl (any_of HT_.out (by kernel_rfl)) (fun _ _ _ h => h) (Or.inl ⟨by rfl, ?_⟩) ?_ ?_
                    rotate_left
                    · intro w'
                      go_simp
                      with_reducible rfl
                    rotate_left
                    · simp only [Act.put, List.setIfInBounds_toArray, List.set_cons_zero, List.set_cons_succ, i64_w, i32_w]
                      rfl
                    refine pure_ (i := 6) (N := some 117) (v := ?_) (a' := ?_) #[true, true, true, true, true, true, true, false, false, false, false, false, false, false, false, false, false, false, false, false, false, false, false, false, false, false, false, false] rfl rfl (any_of HT_.out (by kernel_rfl)) (fun _ _ _ h => h) (Or.inl ⟨by rfl, ?_⟩) ?_ ?_
                    rotate_left
                    · intro w'
                      go_simp
                      with_reducible rfl
                    rotate_left
                    · simp only [Act.put, List.setIfInBounds_toArray, List.set_cons_zero, List.set_cons_succ, i64_w, i32_w]
                      rfl
                    refine pure_ (i := 7) (N := some 118) (v := ?_) (a' := ?_) #[true, true, true, true, true, true, true, true, false, false, false, false, false, false, false, false, false, false, false, false, false, false, false, false, false, false, false, false] rfl rfl (any_of HT_.out (by kernel_rfl)) (fun _ _ _ h => h) (Or.inl ⟨by rfl, ?_⟩) ?_ ?_
                    rotate_left
                    · intro w'
                      go_simp
                      with_reducible rfl
                    rotate_left
                    · simp only [Act.put, List.setIfInBounds_toArray, List.set_cons_zero, List.set_cons_succ, i64_w, i32_w]
                      rfl
                    refine take_ (i := 8) (N := some 119) (v := ?_) (a' := ?_) #[true, true, true, true, true, true, true, true, true, false, false, false, false, false, false, false, false, false, false, false, false, false, false, false, false, false, false, false] rfl rfl (take_ofW HT_.out HW_.out (by kernel_rfl)) (fun _ _ _ h => h) (Or.inl ⟨by rfl, ?_⟩) hHeld ?_ ?_
                    rotate_left
                    · intro w' s0
                      go_simp
                      with_reducible rfl
                    rotate_left
                    · simp only [Act.put, List.setIfInBounds_toArray, List.set_cons_zero, List.set_cons_succ, i64_w, i32_w]
                      rfl
                    refine pure_ (i := 9) (N := some 120) (v := ?_) (a' := ?_) #[true, true, true, true, true, true, true, true, true, true, false, false, false, false, false, false, false, false, false, false, false, false, false, false, false, false, false, false] rfl rfl (any_of HT_.out (by kernel_rfl)) (fun _ _ _ h => h) (Or.inl ⟨by rfl, ?_⟩) ?_ ?_
                    rotate_left
                    · intro w'
                      go_simp
                      with_reducible rfl
                    rotate_left
                    · simp only [Act.put, List.setIfInBounds_toArray, List.set_cons_zero, List.set_cons_succ, i64_w, i32_w]
                      rfl
                    refine pure_ (i := 10) (N := some 121) (v := ?_) (a' := ?_) #[true, true, true, true, true, true, true, true, true, true, true, false, false, false, false, false, false, false, false, false, false, false, false, false, false, false, false, false] rfl rfl (any_of HT_.out (by kernel_rfl)) (fun _ _ _ h => h) (Or.inl ⟨by rfl, ?_⟩) ?_ ?_
                    rotate_left
                    · intro w'
                      go_simp
                      with_reducible rfl
                    rotate_left
                    · simp only [Act.put, List.setIfInBounds_toArray, List.set_cons_zero, List.set_cons_succ, i64_w, i32_w]
                      rfl
                    refine pure_ (i := 11) (N := some 122) (v := ?_) (a' := ?_) #[true, true, true, true, true, true, true, true, true, true, true, true, false, false, false, false, false, false, false, false, false, false, false, false, false, false, false, false] rfl rfl (any_of HT_.out (by kernel_rfl)) (fun _ _ _ h => h) (Or.inl ⟨by rfl, ?_⟩) ?_ ?_
                    rotate_left
                    · intro w'
                      go_simp
                      with_reducible rfl
                    rotate_left
                    · simp only [Act.put, List.setIfInBounds_toArray, List.set_cons_zero, List.set_cons_succ, i64_w, i32_w]
                      rfl
                    refine pure_ (i := 12) (N := some 123) (v := ?_) (a' := ?_) #[true, true, true, true, true, true, true, true, true, true, true, true, true, false, false, false, false, false, false, false, false, false, false, false, false, false, false, false] rfl rfl (any_of HT_.out (by kernel_rfl)) (fun _ _ _ h => h) (Or.inl ⟨by rfl, ?_⟩) ?_ ?_
                    rotate_left
                    · intro w'
                      go_simp
                      with_reducible rfl
                    rotate_left
                    · simp only [Act.put, List.setIfInBounds_toArray, List.set_cons_zero, List.set_cons_succ, i64_w, i32_w]
                      rfl
                    refine pure_ (i := 13) (N := some 124) (v := ?_) (a' := ?_) #[true, true, true, true, true, true, true, true, true, true, true, true, true, true, false, false, false, false, false, false, false, false, false, false, false, false, false, false] rfl rfl (any_of HT_.out (by kernel_rfl)) (fun _ _ _ h => h) (Or.inl ⟨by rfl, ?_⟩) ?_ ?_
                    rotate_left
                    · intro w'
                      go_simp
                      with_reducible rfl
                    rotate_left
                    · simp only [Act.put, List.setIfInBounds_toArray, List.set_cons_zero, List.set_cons_succ, i64_w, i32_w]
                      rfl
                    refine pure_ (i := 14) (N := some 125) (v := ?_) (a' := ?_) #[true, true, true, true, true, true, true, true, true, true, true, true, true, true, true, false, false, false, false, false, false, false, false, false, false, false, false, false] rfl rfl (any_of HT_.out (by kernel_rfl)) (fun _ _ _ h => h) (Or.inl ⟨by rfl, ?_⟩) ?_ ?_
                    rotate_left
                    · intro w'
                      go_simp
                      with_reducible rfl
                    rotate_left
                    · simp only [Act.put, List.setIfInBounds_toArray, List.set_cons_zero, List.set_cons_succ, i64_w, i32_w]
                      rfl
                    refine pure_ (i := 15) (N := some 126) (v := ?_) (a' := ?_) #[true, true, true, true, true, true, true, true, true, true, true, true, true, true, true, true, false, false, false, false, false, false, false, false, false, false, false, false] rfl rfl (any_of HT_.out (by kernel_rfl)) (fun _ _ _ h => h) (Or.inl ⟨by rfl, ?_⟩) ?_ ?_
                    rotate_left
                    · intro w'
                      go_simp
                      with_reducible rfl
                    rotate_left
                    · simp only [Act.put, List.setIfInBounds_toArray, List.set_cons_zero, List.set_cons_succ, i64_w, i32_w]
                      rfl
                    refine pure_ (i := 19) (N := some 130) (v := ?_) (a' := ?_) #[true, true, true, true, true, true, true, true, true, true, true, true, true, true, true, true, false, false, false, true, false, false, false, false, false, false, false, false] rfl rfl (any_of HT_.out (by kernel_rfl)) (fun _ _ _ h => h) (Or.inl ⟨by rfl, ?_⟩) ?_ ?_
                    rotate_left
                    · intro w'
                      go_simp
                      with_reducible rfl
                    rotate_left
                    · simp only [Act.put, List.setIfInBounds_toArray, List.set_cons_zero, List.set_cons_succ, i64_w, i32_w]
                      rfl
                    refine pure_ (i := 20) (N := some 131) (v := ?_) (a' := ?_) #[true, true, true, true, true, true, true, true, true, true, true, true, true, true, true, true, false, false, false, true, true, false, false, false, false, false, false, false] rfl rfl (any_of HT_.out (by kernel_rfl)) (fun _ _ _ h => h) (Or.inl ⟨by rfl, ?_⟩) ?_ ?_
                    rotate_left
                    · intro w'
                      go_simp
                      with_reducible rfl
                    rotate_left
                    · simp only [Act.put, List.setIfInBounds_toArray, List.set_cons_zero, List.set_cons_succ, i64_w, i32_w]
                      rfl
                    refine pure_ (i := 21) (N := some 132) (v := ?_) (a' := ?_) #[true, true, true, true, true, true, true, true, true, true, true, true, true, true, true, true, false, false, false, true, true, true, false, false, false, false, false, false] rfl rfl (any_of HT_.out (by kernel_rfl)) (fun _ _ _ h => h) (Or.inl ⟨by rfl, ?_⟩) ?_ ?_
                    rotate_left
                    · intro w'
                      go_simp
                      with_reducible rfl
                    rotate_left
                    · simp only [Act.put, List.setIfInBounds_toArray, List.set_cons_zero, List.set_cons_succ, i64_w, i32_w]
                      rfl
                    refine pure_ (i := 22) (N := some 133) (v := ?_) (a' := ?_) #[true, true, true, true, true, true, true, true, true, true, true, true, true, true, true, true, false, false, false, true, true, true, true, false, false, false, false, false] rfl rfl (any_of HT_.out (by kernel_rfl)) (fun _ _ _ h => h) (Or.inl ⟨by rfl, ?_⟩) ?_ ?_
                    rotate_left
                    · intro w'
                      go_simp
                      with_reducible rfl
                    rotate_left
                    · simp only [Act.put, List.setIfInBounds_toArray, List.set_cons_zero, List.set_cons_succ, i64_w, i32_w]
                      rfl
                    refine take_ (i := 16) (N := some 127) (v := ?_) (a' := ?_) #[true, true, true, true, true, true, true, true, true, true, true, true, true, true, true, true, true, false, false, true, true, true, true, false, false, false, false, false] rfl rfl (take_ofW HT_.out HW_.out (by kernel_rfl)) (fun _ _ _ h => h) (Or.inl ⟨by rfl, ?_⟩) hHeld ?_ ?_
                    rotate_left
                    · intro w' s0
                      go_simp
                      with_reducible rfl
                    rotate_left
                    · simp only [Act.put, List.setIfInBounds_toArray, List.set_cons_zero, List.set_cons_succ, i64_w, i32_w]
                      rfl
                    refine pure_ (i := 17) (N := some 128) (v := ?_) (a' := ?_) #[true, true, true, true, true, true, true, true, true, true, true, true, true, true, true, true, true, true, false, true, true, true, true, false, false, false, false, false] rfl rfl (any_of HT_.out (by kernel_rfl)) (fun _ _ _ h => h) (Or.inl ⟨by rfl, ?_⟩) ?_ ?_
                    rotate_left
                    · intro w'
                      go_simp
                      with_reducible rfl
                    rotate_left
                    · simp only [Act.put, List.setIfInBounds_toArray, List.set_cons_zero, List.set_cons_succ, i64_w, i32_w]
                      rfl
                    refine take_ (i := 23) (N := some 134) (v := ?_) (a' := ?_) #[true, true, true, true, true, true, true, true, true, true, true, true, true, true, true, true, true, true, false, true, true, true, true, true, false, false, false, false] rfl rfl (take_ofW HT_.out HW_.out (by kernel_rfl)) (fun _ _ _ h => h) (Or.inl ⟨by rfl, ?_⟩) hHeld ?_ ?_
                    rotate_left
                    · intro w' s0
                      go_simp
                      with_reducible rfl
                    rotate_left
                    · simp only [Act.put, List.setIfInBounds_toArray, List.set_cons_zero, List.set_cons_succ, i64_w, i32_w]
                      rfl
                    refine pure_ (i := 24) (N := some 135) (v := ?_) (a' := ?_) #[true, true, true, true, true, true, true, true, true, true, true, true, true, true, true, true, true, true, false, true, true, true, true, true, true, false, false, false] rfl rfl (any_of HT_.out (by kernel_rfl)) (fun _ _ _ h => h) (Or.inl ⟨by rfl, ?_⟩) ?_ ?_
                    rotate_left
                    · intro w'
                      go_simp
                      with_reducible rfl
                    rotate_left
                    · simp only [Act.put, List.setIfInBounds_toArray, List.set_cons_zero, List.set_cons_succ, i64_w, i32_w]
                      rfl
                    refine one_ (i := 18) (N := some 129) #[true, true, true, true, true, true, true, true, true, true, true, true, true, true, true, true, true, true, true, true, true, true, true, true, true, false, false, false] rfl rfl (one_of HT_.out (by kernel_rfl)) (by decide) (fun K hK => ?_)
                    refine goes_ Try.func24 (by kernel_rfl) rfl #[.pointer (some ⟨gs, 0, none⟩), .int .u64 (IntKind.u64.wrap (f - 1))] (by rfl) rfl rfl (by simp only [List.map_toArray, List.map_cons, List.map_nil]; rfl) ?_
                    refine Calls.mono (sForgetJ HJd.out HSl.out (IntKind.u64.wrap (f - 1))) ?_
                    rintro e w18 ⟨rfl, hJ18⟩
                    refine ⟨_, rfl, ?_⟩
                    refine hK.out _ _ (pw_cell_below hJ18.below XF.out) (fun hHeld => ?_)
                    clear hK K
                    refine norm_ (a' := ?_) ?_ ?_
                    rotate_left
                    · show Act.put _ (some 129) _ = _
                      simp only [Act.put, List.setIfInBounds_toArray, List.set_cons_zero, List.set_cons_succ, i64_w, i32_w]
                      rfl
                    refine last_ (i := 25) (N := some 136) #[true, true, true, true, true, true, true, true, true, true, true, true, true, true, true, true, true, true, true, true, true, true, true, true, true, true, false, false] rfl rfl (one_of HT_.out (by kernel_rfl)) (by decide) (fun K hK => ?_)
                    refine goes_ Try.func25 (by kernel_rfl) rfl #[.pointer (some ⟨gr, 0, none⟩), .int .u64 (IntKind.u64.wrap (f - 1))] (by rfl) rfl rfl (by simp only [List.map_toArray, List.map_cons, List.map_nil]; rfl) ?_
                    refine Calls.mono (rForgetJ hJ18 HRl.out (IntKind.u64.wrap (f - 1))) ?_
                    rintro e w25 ⟨rfl, hJ25⟩
                    refine ⟨_, rfl, ?_⟩
                    rw [HEq.out] at hJ25 ⊢
                    refine hK.out _ _ ?_
                    clear hK K
                    refine norm_ (a' := ?_) ?_ ?_
                    rotate_left
                    · show Act.put _ (some 136) _ = _
                      simp only [Act.put, List.setIfInBounds_toArray, List.set_cons_zero, List.set_cons_succ, i64_w, i32_w]
                      rfl
                    refine pure_ (i := 26) (N := some 137) (v := ?_) (a' := ?_) #[true, true, true, true, true, true, true, true, true, true, true, true, true, true, true, true, true, true, true, true, true, true, true, true, true, true, true, false] rfl rfl (any_of HT_.out (by kernel_rfl)) (fun _ _ _ h => h) (Or.inl ⟨by rfl, ?_⟩) ?_ ?_
                    rotate_left
                    · intro w'
                      go_simp
                      with_reducible rfl
                    rotate_left
                    · simp only [Act.put, List.setIfInBounds_toArray, List.set_cons_zero, List.set_cons_succ, i64_w, i32_w]
                      rfl
                    refine pure_ (i := 27) (N := some 138) (v := ?_) (a' := ?_) #[true, true, true, true, true, true, true, true, true, true, true, true, true, true, true, true, true, true, true, true, true, true, true, true, true, true, true, true] rfl rfl (any_of HT_.out (by kernel_rfl)) (fun _ _ _ h => h) (Or.inl ⟨by rfl, ?_⟩) ?_ ?_
                    rotate_left
                    · intro w'
                      go_simp
                      with_reducible rfl
                    rotate_left
                    · simp only [Act.put, List.setIfInBounds_toArray, List.set_cons_zero, List.set_cons_succ, i64_w, i32_w]
                      rfl
                    refine done_ (done_of HT_.out (by kernel_rfl)) ?_
                    have HJ9 := Aside0.mk hJ25
                    have HP9 := Aside0.mk (HP.out.keep (by have := HBl.out; omega) (IntKind.u64.wrap (f - 1)))
                    go_wp2_with fail
                    go_meet
                    exact ⟨rfl, _, _, HJ9, HP9⟩
                  · have hfd : decide ((0 : Int) < f) = false := decide_eq_false hf0
                    go_quiet (fail)
                    have HJ9 := Aside0.mk (HJ.out.then_ (pw_below_drewN (Below.refl _ _) nq))
                    go_wp2_with fail
                    go_meet
                    exact ⟨rfl, S1, R1, HJ9, HP⟩
                · have hjfd : decide ((j : Int) < (nf : Int)) = false := decide_eq_false (by omega)
                  go_quiet (fail)
                  have HJ9 := Aside0.mk (HJ.out.then_ (pw_below_drewN (Below.refl _ _) nq))
                  go_wp2_with fail
                  go_meet
                  exact ⟨rfl, S1, R1, HJ9, HP⟩
              case rest =>
                clear HJ HP
                clear S1 R1
                obtain ⟨rfl, S2, R2, HJ, HP⟩ := hcut
                go_wp2_with fail
                have x0 := pw_cell_below HJ.out.below X0.out
                have x1 := pw_cell_below HJ.out.below X1.out
                have HSl := Aside0.mk (show S2.length ≤ 100000 by have := HP.out.lenS; have := HBl.out; omega)
                have HSl2 := Aside0.mk (show S2.length ≤ 1000000000 by have := HSl.out; omega)
                have HRl := Aside0.mk (show R2.length ≤ 100000 by have := HP.out.len; omega)
                have HEq := Aside0.mk HP.out.eq
                have HsL := Aside0.mk (fun (W : World) (h : J w W gs gr S2 R2) => sListJ h HSl.out)
                have HrL := Aside0.mk (fun (W : World) (h : J w W gs gr S2 R2) => (by have q := rListJ h HRl.out; rw [HEq.out] at q; exact q : Calls Try.prog 26 #[.pointer (some ⟨gr, 0, none⟩)] W (TellQ W S2)))
                have HLn := Aside0.mk (fun (W : World) (h : J w W gs gr S2 R2) => sLenJ h)
                have HsH := Aside0.mk (fun (W : World) (key : ByteArray) (seq : Int) (h : J w W gs gr S2 R2) => sHasJ h HSl.out HP.out.cano.pln key seq)
                have HrH := Aside0.mk (fun (W : World) (key : ByteArray) (seq : Int) (h : J w W gs gr S2 R2) => (by have q := rHasJ h HRl.out key seq; rw [HP.out.has] at q; exact q : Calls Try.prog 28 #[.pointer (some ⟨gr, 0, none⟩), .string key, .int .u64 seq] W fun r w' => r = .returned (.bool (hasB S2 key seq)) ∧ Below W.heap.size W w'))
                refine wp_thenF ?_
                refine walk23 _ _ _ _ _ _ _ _ _ _ _ _ _ _ _ _ _ _ _ _ _ _ _ _ _ _ _ _ _ _ _ _ _ _ _ _ _ _ _ _ _ _ _ _ _ _ _ _ _ _ _ _ _ _ _ _ _ _ _ _ _ _ _ _ _ _ _ _ _ _ _ _ _ _ _ _ _ _ _ _ _ _ _ _ _ _ _ _ _ _ _ _ _ _ _ _ _ _ _ _ _ _ _ _ _ _ _ _ _ _ _ _ _ _ _ _ _ _ _ _ _ _ _ _ _ _ _ _ _ _ _ _ _ _ _ _ _ _ _ _ _ _ _ _ _ _ _ _ _ _ _ _ _ _ _ _ _ _ _ _ _ _ _ _ _ _ _ _ _ _ _ _ _ _ _ _ _ _ _ _ _ _ _ _ _ _ _ _ _ _ _ _ _ _ _ _ _ _ _ _ _ _ _ _ _ _ _ _ _ _ _ _ _ _ _ _ _ _ _ _ _ _ _ _ _ _ _ _ _ _ _ _ _ _ _ _ _ _ _ w wc gs gr ad n c j x key seq S2 R2 hl2 hjn HJ x0 x1 HSl2 HsL HrL HLn HsH HrH _ ?_
                intro v139 v140 v141 v142 v143 v144 v145 v146 v147 v148 v149 v150 v151 v152 v153 v154 v155 v156 v157 v158 v159 v160 v161 v162 v163 v164 v165 v166 v167 v168 v169 v170 v171 v172 v173 v174 v175 v176 v177 v178 v179 v180 v181 v182 v183 v184 v185 v186 v187 v188 v189 v190 v191 v192 v193 v194 v195 v196 v197 v198 v199 v200 Wd hJ60
                have HJ9 := Aside0.mk hJ60
                clear hHeld hJ60 HJ x0 x1
                clear HsL HrL HLn HsH HrH HEq HSl HSl2 HRl
                go_wp2_with fail
                go_roundw
                case measure => simp [intOf]; omega
                case rel => first | exact ⟨j + 1, S2, R2, by omega, by go_num, HJ9, HP⟩ | ((repeat apply Exists.intro); exact ⟨⟨j + 1, S2, R2, by omega, by go_num, HJ9, HP⟩, rfl⟩)
            · obtain rfl : j = n := by omega
              have HSl2 := Aside0.mk (show S.length ≤ 1000000000 by have := HSl.out; omega)
              have HRl2 := Aside0.mk (show R.length ≤ 100000 by have := HP.out.len; omega)
              have HEq := Aside0.mk HP.out.eq
              have HsL := Aside0.mk (fun (W : World) (h : J w W gs gr S R) => sListJ h HSl.out)
              have HrL := Aside0.mk (fun (W : World) (h : J w W gs gr S R) => (by have q := rListJ h HRl2.out; rw [HEq.out] at q; exact q : Calls Try.prog 26 #[.pointer (some ⟨gr, 0, none⟩)] W (TellQ W S)))
              have HLn := Aside0.mk (fun (W : World) (h : J w W gs gr S R) => sLenJ h)
              have HsH := Aside0.mk (fun (W : World) (key : ByteArray) (seq : Int) (h : J w W gs gr S R) => sHasJ h HSl.out HP.out.cano.pln key seq)
              have HrH := Aside0.mk (fun (W : World) (key : ByteArray) (seq : Int) (h : J w W gs gr S R) => (by have q := rHasJ h HRl2.out key seq; rw [HP.out.has] at q; exact q : Calls Try.prog 28 #[.pointer (some ⟨gr, 0, none⟩), .string key, .int .u64 seq] W fun r w' => r = .returned (.bool (hasB S key seq)) ∧ Below W.heap.size W w'))
              have HsO := Aside0.mk (fun (W : World) (h : J w W gs gr S R) => sOverJ h HSl.out lo hi)
              have HrO := Aside0.mk (fun (W : World) (h : J w W gs gr S R) => (by have q := rOverJ h HRl2.out lo hi; rw [HEq.out] at q; exact q : Calls Try.prog 32 #[.pointer (some ⟨gr, 0, none⟩), .string lo, .string hi] W (TellQ W (overF S lo hi))))
              have HOl := Aside0.mk (show (overF S lo hi).length ≤ 1000000000 by have := List.length_filter_le (ovP lo hi) S; have := HSl.out; unfold overF; omega)
              clear HLn HsH HrH HEq HRl HRl2 HSl
              go_wp2_with fail
              go_loopw [21] (fun i W => ∃ (k : Nat), 1 ≤ k ∧ k ≤ j + 1 ∧ i = .int .i64 k ∧ Aside0 (J w W gs gr S R)) (fun i _ => j + 1 - (intOf i).toNat)
              case atStart => exact ⟨1, Nat.le_refl _, by omega, rfl, HJ⟩
              case round =>
                clear HJ
                obtain ⟨k, hk1, hk, rfl, HJ⟩ := hrel
                by_cases hkn : k < j
                · clear hk
                  obtain ⟨x, hx⟩ : ∃ x, rd_T27 l (k : Int) = x := ⟨_, rfl⟩
                  obtain ⟨y, hy⟩ : ∃ y, rd_T27 l ((k - 1 : Nat) : Int) = y := ⟨_, rfl⟩
                  obtain ⟨ad, eA, x0, x1, x2⟩ := at_T27 HC.out (k : Int) (by omega) (by omega)
                  obtain ⟨ad', eA', y0, y1, y2⟩ := at_T27 HC.out ((k - 1 : Nat) : Int) (by omega) (by omega)
                  obtain rfl : ad = ad' := by rw [eA] at eA'; injection eA'
                  subst eA
                  rw [hx] at x0 x1 x2
                  rw [hy] at y0 y1 y2
                  rw [Int.toNat_natCast] at x0 x1 x2 y0 y1 y2
                  replace x0 := pw_cell_below HJ.out.below x0
                  replace x1 := pw_cell_below HJ.out.below x1
                  replace x2 := pw_cell_below HJ.out.below x2
                  replace y0 := pw_cell_below HJ.out.below y0
                  replace y1 := pw_cell_below HJ.out.below y1
                  replace y2 := pw_cell_below HJ.out.below y2
                  clear hx hy eA'
                  have hw1 : wrap64 ((k : Int) - 1) = (k : Int) - 1 := by unfold wrap64; omega
                  have hw2 : ((k : Int) - 1).toNat = k - 1 := by omega
                  have hw3 : (0 : Int) ≤ (k : Int) - 1 := by omega
                  have hw4 : (k : Int) - 1 < (j : Int) := by omega
                  have hw5 : (1 : Int) ≤ (k : Int) := by omega
                  have hw6 : (k : Int) < (j : Int) := by omega
                  go_wp2_with fail
                  refine start_ (n := 21) (S := fun w' => w'.cell? (ad.add ((k - 1) * 3)) = some (.string y.f0) ∧ w'.cell? ⟨(ad.add ((k - 1) * 3)).block, (ad.add ((k - 1) * 3)).off + 1, none⟩ = some (.string y.f1) ∧ w'.cell? ⟨(ad.add ((k - 1) * 3)).block, (ad.add ((k - 1) * 3)).off + 2, none⟩ = some (.int .u64 y.f2) ∧ w'.cell? (ad.add (k * 3)) = some (.string x.f0) ∧ w'.cell? ⟨(ad.add (k * 3)).block, (ad.add (k * 3)).off + 1, none⟩ = some (.string x.f1) ∧ w'.cell? ⟨(ad.add (k * 3)).block, (ad.add (k * 3)).off + 2, none⟩ = some (.int .u64 x.f2)) (ds := [19]) #[false, false, false, false, false, false, false, false, false, false, false, false, false, false, false, false, false, false, false, false, false] (by kernel_rfl) rfl rfl ⟨y0, y1, y2, x0, x1, x2⟩ (fun hHeld => ?_)
                  refine with_tabW plays6.tab28 plays6.bits28 (fun HT_ HW_ => ?_)
                  refine pure_ (i := 0) (N := some 208) (v := ?_) (a' := ?_) #[true, false, false, false, false, false, false, false, false, false, false, false, false, false, false, false, false, false, false, false, false] rfl rfl (any_of HT_.out (by kernel_rfl)) (fun _ _ _ h => h) (Or.inl ⟨by rfl, ?_⟩) ?_ ?_
                  rotate_left
                  · intro w'
                    go_simp
                    with_reducible rfl
                  rotate_left
                  · simp only [Act.put, List.setIfInBounds_toArray, List.set_cons_zero, List.set_cons_succ, i64_w, i32_w]
                    rfl
                  refine pure_ (i := 1) (N := some 209) (v := ?_) (a' := ?_) #[true, true, false, false, false, false, false, false, false, false, false, false, false, false, false, false, false, false, false, false, false] rfl rfl (any_of HT_.out (by kernel_rfl)) (fun _ _ _ h => h) (Or.inl ⟨by rfl, ?_⟩) ?_ ?_
                  rotate_left
                  · intro w'
                    go_simp
                    with_reducible rfl
                  rotate_left
                  · simp only [Act.put, List.setIfInBounds_toArray, List.set_cons_zero, List.set_cons_succ, i64_w, i32_w]
                    rfl
                  refine pure_ (i := 2) (N := some 210) (v := ?_) (a' := ?_) #[true, true, true, false, false, false, false, false, false, false, false, false, false, false, false, false, false, false, false, false, false] rfl rfl (any_of HT_.out (by kernel_rfl)) (fun _ _ _ h => h) (Or.inl ⟨by rfl, ?_⟩) ?_ ?_
                  rotate_left
                  · intro w'
                    go_simp
                    with_reducible rfl
                  rotate_left
                  · simp only [Act.put, List.setIfInBounds_toArray, List.set_cons_zero, List.set_cons_succ, i64_w, i32_w]
                    rfl
                  refine pure_ (i := 3) (N := some 211) (v := ?_) (a' := ?_) #[true, true, true, true, false, false, false, false, false, false, false, false, false, false, false, false, false, false, false, false, false] rfl rfl (any_of HT_.out (by kernel_rfl)) (fun _ _ _ h => h) (Or.inl ⟨by rfl, ?_⟩) ?_ ?_
                  rotate_left
                  · intro w'
                    go_simp
                    with_reducible rfl
                  rotate_left
                  · simp only [Act.put, List.setIfInBounds_toArray, List.set_cons_zero, List.set_cons_succ, i64_w, i32_w]
                    rfl
                  refine pure_ (i := 5) (N := some 213) (v := ?_) (a' := ?_) #[true, true, true, true, false, true, false, false, false, false, false, false, false, false, false, false, false, false, false, false, false] rfl rfl (any_of HT_.out (by kernel_rfl)) (fun _ _ _ h => h) (Or.inl ⟨by rfl, ?_⟩) ?_ ?_
                  rotate_left
                  · intro w'
                    go_simp
                    with_reducible rfl
                  rotate_left
                  · simp only [Act.put, List.setIfInBounds_toArray, List.set_cons_zero, List.set_cons_succ, i64_w, i32_w]
                    rfl
                  refine pure_ (i := 6) (N := some 214) (v := ?_) (a' := ?_) #[true, true, true, true, false, true, true, false, false, false, false, false, false, false, false, false, false, false, false, false, false] rfl rfl (any_of HT_.out (by kernel_rfl)) (fun _ _ _ h => h) (Or.inl ⟨by rfl, ?_⟩) ?_ ?_
                  rotate_left
                  · intro w'
                    go_simp
                    with_reducible rfl
                  rotate_left
                  · simp only [Act.put, List.setIfInBounds_toArray, List.set_cons_zero, List.set_cons_succ, i64_w, i32_w]
                    rfl
                  refine pure_ (i := 7) (N := some 215) (v := ?_) (a' := ?_) #[true, true, true, true, false, true, true, true, false, false, false, false, false, false, false, false, false, false, false, false, false] rfl rfl (any_of HT_.out (by kernel_rfl)) (fun _ _ _ h => h) (Or.inl ⟨by rfl, ?_⟩) ?_ ?_
                  rotate_left
                  · intro w'
                    go_simp
                    with_reducible rfl
                  rotate_left
                  · simp only [Act.put, List.setIfInBounds_toArray, List.set_cons_zero, List.set_cons_succ, i64_w, i32_w]
                    rfl
                  refine pure_ (i := 10) (N := some 218) (v := ?_) (a' := ?_) #[true, true, true, true, false, true, true, true, false, false, true, false, false, false, false, false, false, false, false, false, false] rfl rfl (any_of HT_.out (by kernel_rfl)) (fun _ _ _ h => h) (Or.inl ⟨by rfl, ?_⟩) ?_ ?_
                  rotate_left
                  · intro w'
                    go_simp
                    with_reducible rfl
                  rotate_left
                  · simp only [Act.put, List.setIfInBounds_toArray, List.set_cons_zero, List.set_cons_succ, i64_w, i32_w]
                    rfl
                  refine pure_ (i := 11) (N := some 219) (v := ?_) (a' := ?_) #[true, true, true, true, false, true, true, true, false, false, true, true, false, false, false, false, false, false, false, false, false] rfl rfl (any_of HT_.out (by kernel_rfl)) (fun _ _ _ h => h) (Or.inl ⟨by rfl, ?_⟩) ?_ ?_
                  rotate_left
                  · intro w'
                    go_simp
                    with_reducible rfl
                  rotate_left
                  · simp only [Act.put, List.setIfInBounds_toArray, List.set_cons_zero, List.set_cons_succ, i64_w, i32_w]
                    rfl
                  refine pure_ (i := 12) (N := some 220) (v := ?_) (a' := ?_) #[true, true, true, true, false, true, true, true, false, false, true, true, true, false, false, false, false, false, false, false, false] rfl rfl (any_of HT_.out (by kernel_rfl)) (fun _ _ _ h => h) (Or.inl ⟨by rfl, ?_⟩) ?_ ?_
                  rotate_left
                  · intro w'
                    go_simp
                    with_reducible rfl
                  rotate_left
                  · simp only [Act.put, List.setIfInBounds_toArray, List.set_cons_zero, List.set_cons_succ, i64_w, i32_w]
                    rfl
                  refine pure_ (i := 13) (N := some 221) (v := ?_) (a' := ?_) #[true, true, true, true, false, true, true, true, false, false, true, true, true, true, false, false, false, false, false, false, false] rfl rfl (any_of HT_.out (by kernel_rfl)) (fun _ _ _ h => h) (Or.inl ⟨by rfl, ?_⟩) ?_ ?_
                  rotate_left
                  · intro w'
                    go_simp
                    with_reducible rfl
                  rotate_left
                  · simp only [Act.put, List.setIfInBounds_toArray, List.set_cons_zero, List.set_cons_succ, i64_w, i32_w]
                    rfl
                  refine pure_ (i := 15) (N := some 223) (v := ?_) (a' := ?_) #[true, true, true, true, false, true, true, true, false, false, true, true, true, true, false, true, false, false, false, false, false] rfl rfl (any_of HT_.out (by kernel_rfl)) (fun _ _ _ h => h) (Or.inl ⟨by rfl, ?_⟩) ?_ ?_
                  rotate_left
                  · intro w'
                    go_simp
                    with_reducible rfl
                  rotate_left
                  · simp only [Act.put, List.setIfInBounds_toArray, List.set_cons_zero, List.set_cons_succ, i64_w, i32_w]
                    rfl
                  refine pure_ (i := 16) (N := some 224) (v := ?_) (a' := ?_) #[true, true, true, true, false, true, true, true, false, false, true, true, true, true, false, true, true, false, false, false, false] rfl rfl (any_of HT_.out (by kernel_rfl)) (fun _ _ _ h => h) (Or.inl ⟨by rfl, ?_⟩) ?_ ?_
                  rotate_left
                  · intro w'
                    go_simp
                    with_reducible rfl
                  rotate_left
                  · simp only [Act.put, List.setIfInBounds_toArray, List.set_cons_zero, List.set_cons_succ, i64_w, i32_w]
                    rfl
                  refine pure_ (i := 17) (N := some 225) (v := ?_) (a' := ?_) #[true, true, true, true, false, true, true, true, false, false, true, true, true, true, false, true, true, true, false, false, false] rfl rfl (any_of HT_.out (by kernel_rfl)) (fun _ _ _ h => h) (Or.inl ⟨by rfl, ?_⟩) ?_ ?_
                  rotate_left
                  · intro w'
                    go_simp
                    with_reducible rfl
                  rotate_left
                  · simp only [Act.put, List.setIfInBounds_toArray, List.set_cons_zero, List.set_cons_succ, i64_w, i32_w]
                    rfl
                  refine take_ (i := 4) (N := some 212) (v := ?_) (a' := ?_) #[true, true, true, true, true, true, true, true, false, false, true, true, true, true, false, true, true, true, false, false, false] rfl rfl (take_ofW HT_.out HW_.out (by kernel_rfl)) (fun _ _ _ h => h) (Or.inl ⟨by rfl, ?_⟩) hHeld ?_ ?_
                  rotate_left
                  · rintro w' ⟨s0, s1, s2, s3, s4, s5⟩
                    go_simp
                    with_reducible rfl
                  rotate_left
                  · simp only [Act.put, List.setIfInBounds_toArray, List.set_cons_zero, List.set_cons_succ, i64_w, i32_w]
                    rfl
                  refine take_ (i := 8) (N := some 216) (v := ?_) (a' := ?_) #[true, true, true, true, true, true, true, true, true, false, true, true, true, true, false, true, true, true, false, false, false] rfl rfl (take_ofW HT_.out HW_.out (by kernel_rfl)) (fun _ _ _ h => h) (Or.inl ⟨by rfl, ?_⟩) hHeld ?_ ?_
                  rotate_left
                  · rintro w' ⟨s0, s1, s2, s3, s4, s5⟩
                    go_simp
                    with_reducible rfl
                  rotate_left
                  · simp only [Act.put, List.setIfInBounds_toArray, List.set_cons_zero, List.set_cons_succ, i64_w, i32_w]
                    rfl
                  refine take_ (i := 14) (N := some 222) (v := ?_) (a' := ?_) #[true, true, true, true, true, true, true, true, true, false, true, true, true, true, true, true, true, true, false, false, false] rfl rfl (take_ofW HT_.out HW_.out (by kernel_rfl)) (fun _ _ _ h => h) (Or.inl ⟨by rfl, ?_⟩) hHeld ?_ ?_
                  rotate_left
                  · rintro w' ⟨s0, s1, s2, s3, s4, s5⟩
                    go_simp
                    with_reducible rfl
                  rotate_left
                  · simp only [Act.put, List.setIfInBounds_toArray, List.set_cons_zero, List.set_cons_succ, i64_w, i32_w]
                    rfl
                  refine take_ (i := 18) (N := some 226) (v := ?_) (a' := ?_) #[true, true, true, true, true, true, true, true, true, false, true, true, true, true, true, true, true, true, true, false, false] rfl rfl (take_ofW HT_.out HW_.out (by kernel_rfl)) (fun _ _ _ h => h) (Or.inl ⟨by rfl, ?_⟩) hHeld ?_ ?_
                  rotate_left
                  · rintro w' ⟨s0, s1, s2, s3, s4, s5⟩
                    go_simp
                    with_reducible rfl
                  rotate_left
                  · simp only [Act.put, List.setIfInBounds_toArray, List.set_cons_zero, List.set_cons_succ, i64_w, i32_w]
                    rfl
                  refine one_ (i := 9) (N := some 217) #[true, true, true, true, true, true, true, true, true, true, true, true, true, true, true, true, true, true, true, false, false] rfl rfl (one_of HT_.out (by kernel_rfl)) (by decide) (fun K hK => ?_)
                  refine goes_ Try.func29 (by kernel_rfl) rfl #[.agg #[.string y.f0, .string y.f1, .int .u64 y.f2], .agg #[.string x.f0, .string x.f1, .int .u64 x.f2]] (by rfl) rfl rfl (by simp only [List.map_toArray, List.map_cons, List.map_nil]; rfl) ?_
                  refine Calls.mono (cmp29 _ y x) ?_
                  rintro e w9 ⟨rfl, hb9⟩
                  refine ⟨_, rfl, ?_⟩
                  refine hK.out _ _ ⟨pw_cell_below hb9 hHeld.1, pw_cell_below hb9 hHeld.2.1, pw_cell_below hb9 hHeld.2.2.1, pw_cell_below hb9 hHeld.2.2.2.1, pw_cell_below hb9 hHeld.2.2.2.2.1, pw_cell_below hb9 hHeld.2.2.2.2.2⟩ (fun hHeld => ?_)
                  clear hK K
                  refine norm_ (a' := ?_) ?_ ?_
                  rotate_left
                  · show Act.put _ (some 217) _ = _
                    simp only [Act.put, List.setIfInBounds_toArray, List.set_cons_zero, List.set_cons_succ, i64_w, i32_w]
                    rfl
                  refine last_ (i := 19) (N := some 227) #[true, true, true, true, true, true, true, true, true, true, true, true, true, true, true, true, true, true, true, true, false] rfl rfl (one_of HT_.out (by kernel_rfl)) (by decide) (fun K hK => ?_)
                  refine goes_ Try.func30 (by kernel_rfl) rfl #[.agg #[.string y.f0, .string y.f1, .int .u64 y.f2], .agg #[.string x.f0, .string x.f1, .int .u64 x.f2]] (by rfl) rfl rfl (by simp only [List.map_toArray, List.map_cons, List.map_nil]; rfl) ?_
                  refine Calls.mono (cmp30 _ y x) ?_
                  rintro e w19 ⟨rfl, hb19⟩
                  refine ⟨_, rfl, ?_⟩
                  refine hK.out _ _ ?_
                  clear hK K
                  refine norm_ (a' := ?_) ?_ ?_
                  rotate_left
                  · show Act.put _ (some 227) _ = _
                    simp only [Act.put, List.setIfInBounds_toArray, List.set_cons_zero, List.set_cons_succ, i64_w, i32_w]
                    rfl
                  refine pure_ (i := 20) (N := some 228) (v := ?_) (a' := ?_) #[true, true, true, true, true, true, true, true, true, true, true, true, true, true, true, true, true, true, true, true, true] rfl rfl (any_of HT_.out (by kernel_rfl)) (fun _ _ _ h => h) (Or.inl ⟨by rfl, ?_⟩) ?_ ?_
                  rotate_left
                  · intro w'
                    go_simp
                    with_reducible rfl
                  rotate_left
                  · simp only [Act.put, List.setIfInBounds_toArray, List.set_cons_zero, List.set_cons_succ, i64_w, i32_w]
                    rfl
                  refine done_ (done_of HT_.out (by kernel_rfl)) ?_
                  have HJ9 := Aside0.mk (J.then_ (J.then_ (J.then_ HJ.out (below_drew (Below.refl _ _))) hb9) hb19)
                  clear hHeld hb9 hb19 HJ x0 x1 x2 y0 y1 y2 hw1 hw2 hw3 hw4 hw5 hw6
                  go_wp2_with fail
                  go_roundw
                  case measure => simp [intOf]; omega
                  case rel => exact ⟨k + 1, by omega, by omega, by go_num, HJ9⟩
                · have hkd : decide ((k : Int) < (j : Int)) = false := decide_eq_false (by omega)
                  go_wp2_with fail
                  go_at_call 31
                  refine (HsO.out _ HJ.out).mono ?_
                  rintro r v1 ⟨A1, c1, rfl, hc1, hC1, hb1⟩
                  have HJ1 := Aside0.mk (J.then_ HJ.out hb1)
                  have HC1 := Aside0.mk (And.intro hc1 hC1)
                  clear hc1 hC1 hb1 HJ
                  go_wp2_with fail
                  go_at_call 32
                  refine (HrO.out _ HJ1.out).mono ?_
                  rintro r v2 ⟨A2, c2, rfl, hc2, hC2, hb2⟩
                  have HJ2 := Aside0.mk (J.then_ HJ1.out hb2)
                  have HSm := Aside0.mk (same11 (Kd.C_below HC1.out.2 hb2) HC1.out.1 hC2 hc2 HOl.out)
                  clear hc2 hC2 hb2 HJ1 HC1
                  go_wp2_with fail
                  go_at_call 11
                  refine HSm.out.mono ?_
                  rintro r v3 ⟨rfl, hd3⟩
                  have HJ3 := Aside0.mk (J.then_ HJ2.out hd3.below)
                  clear hd3 HJ2 HSm
                  go_wp2_with fail
                  go_at_call 10
                  refine (HsL.out _ HJ3.out).mono ?_
                  rintro r v4 ⟨A4, c4, rfl, hc4, hC4, hb4⟩
                  have HJ4 := Aside0.mk (J.then_ HJ3.out hb4)
                  have HC4 := Aside0.mk (And.intro hc4 hC4)
                  clear hc4 hC4 hb4 HJ3
                  go_wp2_with fail
                  go_at_call 26
                  refine (HrL.out _ HJ4.out).mono ?_
                  rintro r v5 ⟨A5, c5, rfl, hc5, hC5, hb5⟩
                  have HJ5 := Aside0.mk (J.then_ HJ4.out hb5)
                  have HSm := Aside0.mk (same11 (Kd.C_below HC4.out.2 hb5) HC4.out.1 hC5 hc5 HSl2.out)
                  clear hc5 hC5 hb5 HJ4 HC4
                  go_wp2_with fail
                  go_at_call 11
                  refine HSm.out.mono ?_
                  rintro r v6 ⟨rfl, hd6⟩
                  have HJ6 := Aside0.mk (J.then_ HJ5.out hd6.below)
                  clear hd6 HJ5 HSm
                  go_wp2_with fail
                  go_ret
                  exact ⟨rfl, HJ6.out.below⟩
        · have HOK := Aside0.mk (HA1.out (by first | trivial | rfl))
          clear HE HA1 HA2
          go_wp2_with fail
          go_at_call 9
          refine (HNw.out _ HB.out (by omega)).mono ?_
          rintro r w7 ⟨hb, hr⟩
          rw [if_neg HOK.out] at hr
          subst hr
          replace HB := Aside0.mk (below_then HB.out HB.out.size hb)
          clear hb
          go_wp2_with fail
          go_ret
          exact ⟨rfl, HB.out⟩
  · have hszd : decide ((3000 : Int) < (key.size : Int) + lo.size + hi.size) = true := decide_eq_true (by omega)
    go_wp2_with fail
    go_ret
    exact ⟨rfl, HB.out⟩
end Go.Proofs.Ytpfkfnphjbgohaa.El
