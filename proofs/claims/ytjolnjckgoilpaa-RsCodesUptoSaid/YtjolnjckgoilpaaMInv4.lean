/- Several texts of this session laid together: GfInv4, GfInv5. -/
import Derived.Test.YtjolnjckgoilpaaMRef
import Derived.Test.YtjolnjckgoilpaaMAlg
import Derived.Test.YtjolnjckgoilpaaGaFacts
import Derived.Test.YtjolnjckgoilpaaPRay6
import Derived.BigRegion
import Derived.Test.YtjolnjckgoilpaaMInv
section
/-
  The walk of the reference's Inverse. 
-/
set_option linter.unusedVariables false
set_option linter.unusedSimpArgs false
namespace Go.Proofs.Ytjolnjckgoilpaa.GaFacts
open Go.RowKit Go.Proofs.Ytjolnjckgoilpaa.PRa Go.Proofs.YtjolnjckgoilpaaW.PrintWords Go.Proofs.YtjolnjckgoilpaaW.PrintLast
theorem rinv_l0 (a : Nat) (ha : a < 256) : ∀ (d k i : Nat), d + i = 254 → d + 20 < k → flintref5_inverse.l0 k a ((GfM.P a i : Nat) : Int) i = some ((GfM.P a 254 : Nat) : Int) := by
  intro d
  induction d with
  | zero =>
    intro k i hd hk
    obtain ⟨k, rfl⟩ : ∃ m, k = m + 1 := ⟨k - 1, by omega⟩
    simp only [flintref5_inverse.l0]
    rw [if_neg (by omega), show i = 254 by omega]
  | succ d ih =>
    intro k i hd hk
    obtain ⟨k, rfl⟩ : ∃ m, k = m + 1 := ⟨k - 1, by omega⟩
    simp only [flintref5_inverse.l0]
    rw [if_pos (by omega), rmul_ok k _ _ (by omega) (GfM.P_lt a i) ha]
    simp only [Option.bind_some]
    rw [wrap_inc _ (by omega) (by omega)]
    exact ih k (i + 1) (by omega) (by omega)
theorem rinv_ok (k a : Nat) (hk : 400 ≤ k) (ha : a < 256) : flintref5_inverse.f k a = some ((GfM.P a 254 : Nat) : Int) := rinv_l0 a ha 254 k 0 (by omega) (by omega)
end Go.Proofs.Ytjolnjckgoilpaa.GaFacts
namespace Go.Proofs.Ytjolnjckgoilpaa.Gf
open Go.RowKit Go.Proofs.YtjolnjckgoilpaaW.PrintWords Go.Proofs.YtjolnjckgoilpaaW.PrintLast Go.Proofs.Ytjolnjckgoilpaa.PRa
open Go.Proofs.Ytjolnjckgoilpaa.PRa (info25 flintref5_Unit.calls flintref5_Right.calls)

theorem rows_first {l : List (List Int)} {n : Nat} (ok : okB l = true) (hrow : ∀ i, i < n → (row l i).length = n) (i : Nat) (hi : i < n) : row l i = (List.range n).map fun j => ((byt l i j : Nat) : Int) := by
  apply List.ext_getElem
  · simp [hrow i hi]
  · intro k h1 h2
    have := (okB_at ok i k).2
    simp only [List.getElem_map, List.getElem_range]
    rw [← this]
    simp [List.getD, h1]
set_option maxRecDepth 100000 in
set_option maxHeartbeats 4000000 in
theorem inv37_ok (w : World) (l : List (List Int)) (A : Option Addr) (c n : Nat) (hM : KR.C w A l.length l) (hc : l.length ≤ c) (okm : okB l = true) (hm : rightB l = true) (hn : l.length = n) (hsq : (row l 0).length = n) :
    Calls Try.prog 37 #[.slice A n c] w fun e w' => (gj n n (byt l, kronN) = none ∧ e = .returned (.tuple #[.slice none 0 0, .int .i64 4]) ∧ Below w.heap.size w w') ∨
      ∃ ga gca go gco ba ca bo co s, gj n n (byt l, kronN) = some s ∧ e = .returned (.tuple #[.slice (some ⟨go, 0, none⟩) n gco, .int .i64 0]) ∧ St2 w w' ga gca go gco n ba ca bo co s := by
  have hbm : ∀ i j, byt l i j < 256 := fun i j => (okB_at okm i j).1
  have hn1 : 1 ≤ n := by simp [rightB] at hm; omega
  have hn255 : n ≤ 255 := by simp [rightB] at hm; omega
  have hrow : ∀ i, i < n → (row l i).length = n := by
    simp only [rightB, Bool.and_eq_true, decide_eq_true_eq, Bool.not_eq_true', List.any_eq_false, List.mem_range, ne_eq, Decidable.not_not] at hm
    intro i hi
    rw [hm.2.2.2.2 i (by omega), hsq]
  have hrows : ∀ i, i < n → row l i = (List.range n).map fun j => ((byt l i j : Nat) : Int) := rows_first okm hrow
  have hcells : ∀ i, i < n → ∃ ad A' c', A = some ad ∧ w.cell? (ad.add i) = some (.slice A' n c') ∧ n ≤ c' ∧ KB.C w A' n ((List.range n).map fun j => ((byt l i j : Nat) : Int)) := fun i hi => by
    obtain ⟨ad, A', c', e, h1, h2, h3⟩ := rows_at hM (show i < l.length by omega)
    rw [hrow i hi] at h1 h2 h3
    rw [hrows i hi] at h3
    exact ⟨ad, A', c', e, h1, h2, h3⟩
  have hRt : ∀ W, Below w.heap.size w W → Calls Try.prog 63 #[.slice A n c] W fun e w' => e = .returned (.bool true) ∧ Drawn0 W w' := fun W hW => by
    have := flintref5_Right.calls 400 A c l true W (Kd.C_below hM hW) hc (by rw [GbFacts.right_ok 400 l (by omega), hm])
    rwa [hn] at this
  have hUnit : ∀ W, Calls Try.prog 35 #[.int .i64 n] W fun e w' => ∃ v0_ : Value, e = .returned (.tuple #[v0_, .int .i64 0]) ∧ Kd.S KR 25 w' W.heap.size (fun _ => True) v0_ (matrix n n kron) ∧ Below W.heap.size W w' := fun W =>
    flintref5_Unit.calls 400 n _ _ W (by
      rw [GbFacts.unit_ok 400 (n : Int) (by omega)]
      unfold unitF
      rw [if_neg (by omega), if_neg (by omega), Int.toNat_natCast])
  obtain ⟨ad0, A0, c0, rfl, hc00, hc01, _⟩ := hcells 0 (by omega)
  rw [Addr.add_zero'] at hc00
  have HC : Hid (∀ i, i < n → ∃ ad A' c', some ad0 = some ad ∧ w.cell? (ad.add i) = some (.slice A' n c') ∧ n ≤ c' ∧ KB.C w A' n ((List.range n).map fun j => ((byt l i j : Nat) : Int))) := hcells
  have HRt : Hid _ := hRt
  have HU : Hid _ := hUnit
  have HBm : Hid (∀ i j, byt l i j < 256) := hbm
  generalize hbl : byt l = bm at *
  have qn : 0 < n := by omega
  have q : (0 : Int) < (n : Int) := by omega
  clear hcells hRt hUnit hbm hrows hrow hsq hm hM hbl okm hc hn
  go_enter Try.func37, Try.ntmps37
  go_wp2_with (go_at_call 63; refine Calls.mono (HRt.out _ (Below.refl _ _)) ?_; rintro e w2 ⟨rfl, ⟨nd, rfl⟩⟩)
  have hS0 : Kd.S KR 25 (w.drewN nd) w.heap.size (fun _ => True) (.slice none 0 0) (matrix 0 n fun i j => ((bm i j : Nat) : Int)) := Kd.S_nil _ _ _ _ _
  have hB0 : Below w.heap.size w (w.drewN nd) := pw_below_drewN (Below.refl _ _) _
  generalize w.drewN nd = w3 at *
  go_loopw [6, 5] (fun v u wr => ∃ i : Nat, i ≤ n ∧ v = .int .i64 (i : Nat) ∧ Kd.S KR 25 wr w.heap.size (fun _ => True) u (matrix i n fun i j => ((bm i j : Nat) : Int)) ∧ Below w.heap.size w wr) (fun v _ _ => n - (intOf v).toNat)
  case atStart => exact ⟨0, Nat.zero_le _, rfl, hS0, hB0⟩
  case round =>
    clear hS0 hB0
    obtain ⟨i, hi, rfl, hS, hB⟩ := hrel
    by_cases hlt : i < n
    · obtain ⟨ad, A', c', e, hcell, hle, hI⟩ := HC.out i hlt
      obtain rfl : ad0 = ad := by injection e
      replace hcell := pw_cell_below hB hcell
      have HI : Hid (KB.C w A' n ((List.range n).map fun j => ((bm i j : Nat) : Int))) := hI
      have HO := Aside0.mk hS
      have HB := Aside0.mk hB
      have q1 : (0 : Int) ≤ (i : Int) := by omega
      have q2 : (i : Int) < (n : Int) := by omega
      have HL : Hid ((matrix i n fun i j => ((bm i j : Nat) : Int)).length = i) := GbFacts.matrix_length _ _ _
      have HLr : Hid (((List.range n).map fun j => ((bm i j : Nat) : Int)).length = n) := by show List.length _ = n; simp
      have HM2 : Hid ((matrix (i + 1) n fun i j => ((bm i j : Nat) : Int)) = (matrix i n fun i j => ((bm i j : Nat) : Int)) ++ [(List.range n).map fun j => ((bm i j : Nat) : Int)]) := GbFacts.matrix_succ _ _ _
      clear hI hS hB e
      generalize (List.range n).map (fun j => ((bm i j : Nat) : Int)) = ri at *
      generalize hmi : (matrix i n fun i j => ((bm i j : Nat) : Int)) = mi at *
      clear hmi
      go_wp2_with (first
        | ((with_reducible refine gate_dst (N := 34) rfl ?_); (try (refine gate_guard (by rfl) ?_; dsimp only)); refine Kd.R_lit (Kd.int .u8) _ 5 ?hg (N := 34) ?hd (xs := ([] : List Int)) (inner := []) (ok := fun _ => True) (okp := fun _ => True) ?hr ?hp (fun _ hk => hk) trivial (Below.refl _ _) (Nat.le_refl _) (by simp) ?_; (case hd => rfl); (case hg => rfl); (case hr => first | (go_simp; done) | (go_simp; rfl)); (case hp => exact (Reps.none _ _)); intro v148 w16 ho17 hb hg_ hnew_; clear hg_ hnew_;
           have n0_ := Aside0.mk (Kd.S_elder' HO.out (Kd.R_base ho17) hb); have n1_ := Aside0.mk (Kd.R_lower ho17 (below_size HB.out)); have n2_ := Aside0.mk (below_step HB.out hb); replace hcell := pw_cell_below hb hcell; clear HO; clear HB; have HO := n0_; have HO2 := n1_; have HB := n2_; clear n0_ n1_ n2_; clear hb ho17)
        | ((with_reducible refine gate_builtin (b := .append) (xs := #[.tmp 34, .tmp 38]) rfl ?_); (try (refine gate_guard (by rfl) ?_; dsimp only)); at_builtin; refine Kd.R_append_rows (Kd.int .u8) (w0 := w) w.heap.size rfl (.tmp 34) (.tmp 38) 25 5 (.int .u8 0) 1 rfl Try.underlying25 info5 rfl (by decide) (by omega) v148 [] ri _ _ _ (fun _ => True) (fun _ => False) rfl rfl HO2.out (Kd.C_below HI.out HB.out) (fun _ _ h => h) (fun _ h => h.elim) (fun _ _ => trivial) HB.out (below_size HB.out) (by simp; omega) ?_; intro v153 w18 ho hb hg hat; rw [List.nil_append] at ho;
           have n0_ := Aside0.mk (Kd.S_after (ok := (fun _ => True)) HO.out hg hat); have n1_ := Aside0.mk hb; have n2_ := Aside0.mk ho; clear HO; clear HB; clear HO2; have HO := n0_; have HB := n1_; have HO3 := n2_; clear n0_ n1_ n2_; clear ho hb hg hat; obtain ⟨Ao20, co20, eo20⟩ := Kd.R_slice HO3.out; subst eo20)
        | ((with_reducible refine gate_builtin (b := .append) (xs := #[.tmp 33, .tmp 40]) rfl ?_); (try (refine gate_guard (by rfl) ?_; dsimp only)); at_builtin; refine Kd.S_append (Kd.slice 5 (Kd.int .u8)) (w0 := w) w.heap.size rfl (.tmp 33) (.tmp 40) 22 25 (.slice none 0 0) 24 rfl Try.underlying22 info25 rfl (by decide) (by omega) u5 mi ri [.slice Ao20 ri.length co20] (fun _ => True) (fun k_ => some k_ = (.slice Ao20 ri.length co20 : Value).ownBlock) rfl rfl ?aP (fun k_ hk_ => ((Kd.R_mono (ok' := fun k_ => ((fun _ => True)) k_ ∧ some k_ ≠ (u5 : Value).ownBlock) (Kd.R_apart' (HO3.out) (Kd.S_typed HO.out) (by decide)) (fun k_ hk => ⟨trivial, hk.2⟩))).1 k_ hk_.symm) (fun _ _ => trivial) ?aO HB.out (below_size HB.out) (by rw [HL.out]; omega) ?_;
           (case aP => exact Kd.M_row (Kd.R_mono (Kd.R_tight rfl (Kd.R_mono (ok' := fun k_ => ((fun _ => True)) k_ ∧ some k_ ≠ (u5 : Value).ownBlock) (Kd.R_apart' (HO3.out) (Kd.S_typed HO.out) (by decide)) (fun k_ hk => ⟨trivial, hk.2⟩))) (fun _ h_ => h_))); (case aO => exact Kd.S_mono HO.out (fun k_ hk => ⟨trivial, fun e_ => hk.2 e_⟩)); intro v156 w19 ho hb hg hat; rw [← HM2.out] at ho))
      go_roundw
      case rel => exact ⟨i + 1, by omega, by go_num, ho, hb⟩
      case measure => simp [intOf]; omega
    · obtain rfl : i = n := by omega
      have HS1 := Aside0.mk hS
      have HB1 := Aside0.mk hB
      clear hS hB
      go_wp2_with (go_at_call 35; refine Calls.mono (HU.out _) ?_; rintro e w4 ⟨v4, rfl, hS4, hb4⟩)
      have hst : ∃ ga gca go gco ba ca bo co, u5 = .slice (some ⟨ga, 0, none⟩) i gca ∧ v4 = .slice (some ⟨go, 0, none⟩) i gco ∧ St2 w w4 ga gca go gco i ba ca bo co (bm, kronN) := by
        have hk : matrix i i kron = matrix i i fun p q => ((kronN p q : Nat) : Int) := GbFacts.matrix_congr fun p q _ _ => by unfold kron kronN; split <;> rfl
        rw [hk] at hS4
        obtain ⟨ga, gca, ba, ca, rfl, a1, a2, a3, a4, a5, a6⟩ := grid_of_S hn1 HS1.out
        obtain ⟨go, gco, bo, co, rfl, b1, b2, b3, b4, b5, b6⟩ := grid_of_S hn1 hS4
        have hbw := HB1.out.size
        have hga : ga < wr.heap.size := by
          obtain ⟨cs, h1, _⟩ := a3.top
          exact heap_lt h1
        refine ⟨ga, gca, go, gco, ba, ca, bo, co, rfl, rfl, HB1.out.trans (hb4.mono hbw), ⟨a3.below hb4, a4, a5, ⟨a1, a2⟩, a6, fun p q _ _ => HBm.out p q⟩, ⟨b3, by omega, fun j hj => by have := b5 j hj; omega, ⟨b1, b2⟩, b6, fun p q _ _ => kronN_lt p q⟩, by omega, fun p q hp hq => ?_⟩
        have h1 := (a3.row p hp).lt
        have h2 := b5 q hq
        omega
      obtain ⟨ga, gca, go, gco, ba, ca, bo, co, rfl, rfl, hSt⟩ := hst
      clear HS1 HB1 hS4 hb4
      go_loopw [9] (fun v wx => ∃ k ba ca bo co s, k ≤ i ∧ v = .int .i64 (k : Nat) ∧ gj i k (bm, kronN) = some s ∧ St2 w wx ga gca go gco i ba ca bo co s) (fun v _ => i - (intOf v).toNat)
      case atStart => exact ⟨0, ba, ca, bo, co, _, Nat.zero_le _, rfl, rfl, hSt⟩
      case round =>
        clear hSt
        obtain ⟨k, ba, ca, bo, co, s, hk, rfl, hgj, hSt⟩ := hrel
        by_cases hlt : k < i
        · have HG := Aside0.mk hgj
          have HS := Aside0.mk hSt
          clear hgj hSt
          go_wp2
          go_loopw [10] (fun v wx => ∃ p, k ≤ p ∧ p ≤ i ∧ v = .int .i64 (p : Nat) ∧ (∀ q, k ≤ q → q < p → s.1 q k = 0) ∧ St2 w wx ga gca go gco i ba ca bo co s) (fun v _ => i - (intOf v).toNat)
          case atStart => exact ⟨k, Nat.le_refl _, hk, rfl, fun q h1 h2 => by omega, HS.out⟩
          case round =>
            clear HS
            obtain ⟨p, hkp, hpi, rfl, hno, hSt⟩ := hrel
            have HNo := Aside0.mk hno
            clear hno
            by_cases hp : p < i
            · have crow := hSt.a.grid.cell hp
              have cel := (hSt.a.grid.row p hp).cell hlt
              have HS := Aside0.mk hSt
              clear hSt
              generalize hx : s.1 p k = x at *
              have q1 : (0 : Int) ≤ (p : Int) := by omega
              have q2 : (p : Int) < (i : Int) := by omega
              have q3 : (0 : Int) ≤ (k : Int) := by omega
              have q4 : (k : Int) < (i : Int) := by omega
              by_cases hz : x = 0
              · have b1 : ((x : Int) == 0) = true := by simp; omega
                have HX : Aside0 (s.1 p k = 0) := ⟨by rw [hx]; exact hz⟩
                clear hz hx
                go_wp2
                go_roundw
                case rel => exact ⟨p + 1, by omega, by omega, by go_num, fun q h1 h2 => by
                  by_cases e : q = p
                  · rw [e]; exact HX.out
                  · exact HNo.out q h1 (by omega), HS.out⟩
                case measure => simp [intOf]; omega
              · have b1 : ((x : Int) == 0) = false := by simp; omega
                have b2 : ((p : Int) == (i : Int)) = false := by simp; omega
                obtain ⟨t, ht⟩ : ∃ t, p = k + t := ⟨p - k, by omega⟩
                have hpv : pivot i k s.1 = (t : Nat) := firstIdx_at (by omega) (by rw [ht] at hx; simp only [hx]; exact bne_iff_ne.2 hz) (fun q hq => by
                  have := HNo.out (k + q) (by omega) (by omega)
                  simp [this])
                have hgs := gj_step HG.out hpv
                rw [← ht] at hgs
                have HG2 := Aside0.mk hgs
                have hx2 : (swap2 k p s).1 k k = x := by show swp s.1 k p k k = x; unfold swp; rw [if_pos rfl, hx]
                have HX2 := Aside0.mk hx2
                have HZ := Aside0.mk hz
                have hST := HS.out
                have ca1 := hST.a.grid.cell hlt
                have ca2 := hST.a.grid.cell hp
                have fa1 := hST.a.grid.frozen k
                have fa2 := hST.a.grid.frozen p
                have hGs := hST.a.grid.swap hlt hp
                have HSA := Aside0.mk (HS.out.swapA hlt hp (w2 := ((wr.setCell ⟨ga, k, none⟩ (.slice (some ⟨ba p, 0, none⟩) i (ca p))).setCell ⟨ga, p, none⟩ (.slice (some ⟨ba k, 0, none⟩) i (ca k))).drew) (only_drew (only_set (only_set (World.grownBy.refl _ _) _ _) _ _)) ⟨hGs.top, hGs.row, hGs.inj⟩)
                clear hGs
                clear hST hx2 hz hx hpv HG HNo crow ht hgs
                generalize hbk : ba k = bk at *
                generalize hbp : ba p = bp at *
                generalize hck : ca k = ck at *
                generalize hcp : ca p = cp at *
                obtain ⟨v2, hv2⟩ := cell?_setCell_some (w := wr) (p := ⟨ga, k, none⟩) (x := .slice (some ⟨bp, 0, none⟩) i cp) (q := ⟨ga, p, none⟩) (v := .slice (some ⟨bp, 0, none⟩) i cp) (by go_simp)
                have hv3 : (wr.setCell ⟨ga, k, none⟩ (.slice (some ⟨bp, 0, none⟩) i cp)).drew.cell? ⟨ga, p, none⟩ = some v2 := hv2
                have hv4 : (wr.drew.setCell ⟨ga, k, none⟩ (.slice (some ⟨bp, 0, none⟩) i cp)).cell? ⟨ga, p, none⟩ = some v2 := hv2
                clear hbk hbp hck hcp
                go_wp2
                refine start_ (n := 16) (S := fun w' => w'.cell? ⟨ga, k, none⟩ = some (.slice (some ⟨bk, 0, none⟩) i ck) ∧ w'.cell? ⟨ga, p, none⟩ = some (.slice (some ⟨bp, 0, none⟩) i cp)) (ds := [13, 15]) #[false, false, false, false, false, false, false, false, false, false, false, false, false, false, false, false] (by kernel_rfl) rfl rfl ⟨ca1, ca2⟩ (fun hHeld => ?_)
                refine pure_ (i := 0) (N := some 71) (v := ?_) (a' := ?_) #[true, false, false, false, false, false, false, false, false, false, false, false, false, false, false, false] rfl rfl (by kernel_rfl) (fun _ _ _ h => h) (Or.inl ⟨by rfl, ?_⟩) ?_ ?_
                rotate_left
                · intro w'
                  go_simp
                  with_reducible rfl
                rotate_left
                · simp only [Act.put, List.setIfInBounds_toArray, List.set_cons_zero, List.set_cons_succ, i64_w, i32_w]
                  rfl
                refine pure_ (i := 1) (N := some 72) (v := ?_) (a' := ?_) #[true, true, false, false, false, false, false, false, false, false, false, false, false, false, false, false] rfl rfl (by kernel_rfl) (fun _ _ _ h => h) (Or.inl ⟨by rfl, ?_⟩) ?_ ?_
                rotate_left
                · intro w'
                  go_simp
                  with_reducible rfl
                rotate_left
                · simp only [Act.put, List.setIfInBounds_toArray, List.set_cons_zero, List.set_cons_succ, i64_w, i32_w]
                  rfl
                refine pure_ (i := 2) (N := some 73) (v := ?_) (a' := ?_) #[true, true, true, false, false, false, false, false, false, false, false, false, false, false, false, false] rfl rfl (by kernel_rfl) (fun _ _ _ h => h) (Or.inl ⟨by rfl, ?_⟩) ?_ ?_
                rotate_left
                · intro w'
                  go_simp
                  with_reducible rfl
                rotate_left
                · simp only [Act.put, List.setIfInBounds_toArray, List.set_cons_zero, List.set_cons_succ, i64_w, i32_w]
                  rfl
                refine pure_ (i := 3) (N := some 74) (v := ?_) (a' := ?_) #[true, true, true, true, false, false, false, false, false, false, false, false, false, false, false, false] rfl rfl (by kernel_rfl) (fun _ _ _ h => h) (Or.inl ⟨by rfl, ?_⟩) ?_ ?_
                rotate_left
                · intro w'
                  go_simp
                  with_reducible rfl
                rotate_left
                · simp only [Act.put, List.setIfInBounds_toArray, List.set_cons_zero, List.set_cons_succ, i64_w, i32_w]
                  rfl
                refine pure_ (i := 4) (N := some 75) (v := ?_) (a' := ?_) #[true, true, true, true, true, false, false, false, false, false, false, false, false, false, false, false] rfl rfl (by kernel_rfl) (fun _ _ _ h => h) (Or.inl ⟨by rfl, ?_⟩) ?_ ?_
                rotate_left
                · intro w'
                  go_simp
                  with_reducible rfl
                rotate_left
                · simp only [Act.put, List.setIfInBounds_toArray, List.set_cons_zero, List.set_cons_succ, i64_w, i32_w]
                  rfl
                refine pure_ (i := 5) (N := some 76) (v := ?_) (a' := ?_) #[true, true, true, true, true, true, false, false, false, false, false, false, false, false, false, false] rfl rfl (by kernel_rfl) (fun _ _ _ h => h) (Or.inl ⟨by rfl, ?_⟩) ?_ ?_
                rotate_left
                · intro w'
                  go_simp
                  with_reducible rfl
                rotate_left
                · simp only [Act.put, List.setIfInBounds_toArray, List.set_cons_zero, List.set_cons_succ, i64_w, i32_w]
                  rfl
                refine pure_ (i := 6) (N := some 77) (v := ?_) (a' := ?_) #[true, true, true, true, true, true, true, false, false, false, false, false, false, false, false, false] rfl rfl (by kernel_rfl) (fun _ _ _ h => h) (Or.inl ⟨by rfl, ?_⟩) ?_ ?_
                rotate_left
                · intro w'
                  go_simp
                  with_reducible rfl
                rotate_left
                · simp only [Act.put, List.setIfInBounds_toArray, List.set_cons_zero, List.set_cons_succ, i64_w, i32_w]
                  rfl
                refine pure_ (i := 8) (N := some 79) (v := ?_) (a' := ?_) #[true, true, true, true, true, true, true, false, true, false, false, false, false, false, false, false] rfl rfl (by kernel_rfl) (fun _ _ _ h => h) (Or.inl ⟨by rfl, ?_⟩) ?_ ?_
                rotate_left
                · intro w'
                  go_simp
                  with_reducible rfl
                rotate_left
                · simp only [Act.put, List.setIfInBounds_toArray, List.set_cons_zero, List.set_cons_succ, i64_w, i32_w]
                  rfl
                refine pure_ (i := 9) (N := some 80) (v := ?_) (a' := ?_) #[true, true, true, true, true, true, true, false, true, true, false, false, false, false, false, false] rfl rfl (by kernel_rfl) (fun _ _ _ h => h) (Or.inl ⟨by rfl, ?_⟩) ?_ ?_
                rotate_left
                · intro w'
                  go_simp
                  with_reducible rfl
                rotate_left
                · simp only [Act.put, List.setIfInBounds_toArray, List.set_cons_zero, List.set_cons_succ, i64_w, i32_w]
                  rfl
                refine pure_ (i := 10) (N := some 81) (v := ?_) (a' := ?_) #[true, true, true, true, true, true, true, false, true, true, true, false, false, false, false, false] rfl rfl (by kernel_rfl) (fun _ _ _ h => h) (Or.inl ⟨by rfl, ?_⟩) ?_ ?_
                rotate_left
                · intro w'
                  go_simp
                  with_reducible rfl
                rotate_left
                · simp only [Act.put, List.setIfInBounds_toArray, List.set_cons_zero, List.set_cons_succ, i64_w, i32_w]
                  rfl
                refine take_ (i := 7) (N := some 78) (v := ?_) (a' := ?_) #[true, true, true, true, true, true, true, true, true, true, true, false, false, false, false, false] rfl rfl (by kernel_rfl) (fun _ _ _ h => h) (Or.inl ⟨by rfl, ?_⟩) hHeld ?_ ?_
                rotate_left
                · rintro w' ⟨s0, s1⟩
                  go_simp
                  with_reducible rfl
                rotate_left
                · simp only [Act.put, List.setIfInBounds_toArray, List.set_cons_zero, List.set_cons_succ, i64_w, i32_w]
                  rfl
                refine take_ (i := 11) (N := some 82) (v := ?_) (a' := ?_) #[true, true, true, true, true, true, true, true, true, true, true, true, false, false, false, false] rfl rfl (by kernel_rfl) (fun _ _ _ h => h) (Or.inl ⟨by rfl, ?_⟩) hHeld ?_ ?_
                rotate_left
                · rintro w' ⟨s0, s1⟩
                  go_simp
                  with_reducible rfl
                rotate_left
                · simp only [Act.put, List.setIfInBounds_toArray, List.set_cons_zero, List.set_cons_succ, i64_w, i32_w]
                  rfl
                refine pure_ (i := 12) (N := some 83) (v := ?_) (a' := ?_) #[true, true, true, true, true, true, true, true, true, true, true, true, true, false, false, false] rfl rfl (by kernel_rfl) (fun _ _ _ h => h) (Or.inl ⟨by rfl, ?_⟩) ?_ ?_
                rotate_left
                · intro w'
                  go_simp
                  with_reducible rfl
                rotate_left
                · simp only [Act.put, List.setIfInBounds_toArray, List.set_cons_zero, List.set_cons_succ, i64_w, i32_w]
                  rfl
                refine last_ (i := 13) (N := none) #[true, true, true, true, true, true, true, true, true, true, true, true, true, true, false, false] rfl rfl (by kernel_rfl) (by decide) (fun K hK => ?_)
                refine skip_ (w1 := ?_) (by rfl) rfl ?_ ?_
                rotate_left
                · go_simp
                  rfl
                refine hK.out _ _ ?_
                clear hK K
                refine pure_ (i := 14) (N := some 84) (v := ?_) (a' := ?_) #[true, true, true, true, true, true, true, true, true, true, true, true, true, true, true, false] rfl rfl (by kernel_rfl) (fun _ _ _ h => h) (Or.inl ⟨by rfl, ?_⟩) ?_ ?_
                rotate_left
                · intro w'
                  go_simp
                  with_reducible rfl
                rotate_left
                · simp only [Act.put, List.setIfInBounds_toArray, List.set_cons_zero, List.set_cons_succ, i64_w, i32_w]
                  rfl
                refine last_ (i := 15) (N := none) #[true, true, true, true, true, true, true, true, true, true, true, true, true, true, true, true] rfl rfl (by kernel_rfl) (by decide) (fun K hK => ?_)
                refine skip_ (w1 := ?_) (by rfl) rfl ?_ ?_
                rotate_left
                · go_simp
                  rfl
                refine hK.out _ _ ?_
                clear hK K
                refine done_ (by kernel_rfl) ?_
                clear ca1 ca2 fa1 fa2 hv2 hv3 hv4 cel hHeld HS b1 b2
                generalize ((wr.setCell ⟨ga, k, none⟩ (.slice (some ⟨bp, 0, none⟩) i cp)).setCell ⟨ga, p, none⟩ (.slice (some ⟨bk, 0, none⟩) i ck)).drew = w5 at *
                generalize swp ba k p = ba2 at *
                generalize swp ca k p = ca2 at *
                have hST := HSA.out
                have cb1 := hST.o.grid.cell hlt
                have cb2 := hST.o.grid.cell hp
                have fb1 := hST.o.grid.frozen k
                have fb2 := hST.o.grid.frozen p
                have hGs := hST.o.grid.swap hlt hp
                have HSB := Aside0.mk (hST.swapO hlt hp (w2 := ((w5.setCell ⟨go, k, none⟩ (.slice (some ⟨bo p, 0, none⟩) i (co p))).setCell ⟨go, p, none⟩ (.slice (some ⟨bo k, 0, none⟩) i (co k))).drew) (only_drew (only_set (only_set (World.grownBy.refl _ _) _ _) _ _)) ⟨hGs.top, hGs.row, hGs.inj⟩)
                clear hGs hST HSA
                generalize hbk : bo k = bk2 at *
                generalize hbp : bo p = bp2 at *
                generalize hck : co k = ck2 at *
                generalize hcp : co p = cp2 at *
                obtain ⟨v2, hv2⟩ := cell?_setCell_some (w := w5) (p := ⟨go, k, none⟩) (x := .slice (some ⟨bp2, 0, none⟩) i cp2) (q := ⟨go, p, none⟩) (v := .slice (some ⟨bp2, 0, none⟩) i cp2) (by go_simp)
                have hv3 : (w5.setCell ⟨go, k, none⟩ (.slice (some ⟨bp2, 0, none⟩) i cp2)).drew.cell? ⟨go, p, none⟩ = some v2 := hv2
                have hv4 : (w5.drew.setCell ⟨go, k, none⟩ (.slice (some ⟨bp2, 0, none⟩) i cp2)).cell? ⟨go, p, none⟩ = some v2 := hv2
                clear hbk hbp hck hcp
                go_wp2
                refine start_ (n := 16) (S := fun w' => w'.cell? ⟨go, k, none⟩ = some (.slice (some ⟨bk2, 0, none⟩) i ck2) ∧ w'.cell? ⟨go, p, none⟩ = some (.slice (some ⟨bp2, 0, none⟩) i cp2)) (ds := [13, 15]) #[false, false, false, false, false, false, false, false, false, false, false, false, false, false, false, false] (by kernel_rfl) rfl rfl ⟨cb1, cb2⟩ (fun hHeld => ?_)
                refine pure_ (i := 0) (N := some 85) (v := ?_) (a' := ?_) #[true, false, false, false, false, false, false, false, false, false, false, false, false, false, false, false] rfl rfl (by kernel_rfl) (fun _ _ _ h => h) (Or.inl ⟨by rfl, ?_⟩) ?_ ?_
                rotate_left
                · intro w'
                  go_simp
                  with_reducible rfl
                rotate_left
                · simp only [Act.put, List.setIfInBounds_toArray, List.set_cons_zero, List.set_cons_succ, i64_w, i32_w]
                  rfl
                refine pure_ (i := 1) (N := some 86) (v := ?_) (a' := ?_) #[true, true, false, false, false, false, false, false, false, false, false, false, false, false, false, false] rfl rfl (by kernel_rfl) (fun _ _ _ h => h) (Or.inl ⟨by rfl, ?_⟩) ?_ ?_
                rotate_left
                · intro w'
                  go_simp
                  with_reducible rfl
                rotate_left
                · simp only [Act.put, List.setIfInBounds_toArray, List.set_cons_zero, List.set_cons_succ, i64_w, i32_w]
                  rfl
                refine pure_ (i := 2) (N := some 87) (v := ?_) (a' := ?_) #[true, true, true, false, false, false, false, false, false, false, false, false, false, false, false, false] rfl rfl (by kernel_rfl) (fun _ _ _ h => h) (Or.inl ⟨by rfl, ?_⟩) ?_ ?_
                rotate_left
                · intro w'
                  go_simp
                  with_reducible rfl
                rotate_left
                · simp only [Act.put, List.setIfInBounds_toArray, List.set_cons_zero, List.set_cons_succ, i64_w, i32_w]
                  rfl
                refine pure_ (i := 3) (N := some 88) (v := ?_) (a' := ?_) #[true, true, true, true, false, false, false, false, false, false, false, false, false, false, false, false] rfl rfl (by kernel_rfl) (fun _ _ _ h => h) (Or.inl ⟨by rfl, ?_⟩) ?_ ?_
                rotate_left
                · intro w'
                  go_simp
                  with_reducible rfl
                rotate_left
                · simp only [Act.put, List.setIfInBounds_toArray, List.set_cons_zero, List.set_cons_succ, i64_w, i32_w]
                  rfl
                refine pure_ (i := 4) (N := some 89) (v := ?_) (a' := ?_) #[true, true, true, true, true, false, false, false, false, false, false, false, false, false, false, false] rfl rfl (by kernel_rfl) (fun _ _ _ h => h) (Or.inl ⟨by rfl, ?_⟩) ?_ ?_
                rotate_left
                · intro w'
                  go_simp
                  with_reducible rfl
                rotate_left
                · simp only [Act.put, List.setIfInBounds_toArray, List.set_cons_zero, List.set_cons_succ, i64_w, i32_w]
                  rfl
                refine pure_ (i := 5) (N := some 90) (v := ?_) (a' := ?_) #[true, true, true, true, true, true, false, false, false, false, false, false, false, false, false, false] rfl rfl (by kernel_rfl) (fun _ _ _ h => h) (Or.inl ⟨by rfl, ?_⟩) ?_ ?_
                rotate_left
                · intro w'
                  go_simp
                  with_reducible rfl
                rotate_left
                · simp only [Act.put, List.setIfInBounds_toArray, List.set_cons_zero, List.set_cons_succ, i64_w, i32_w]
                  rfl
                refine pure_ (i := 6) (N := some 91) (v := ?_) (a' := ?_) #[true, true, true, true, true, true, true, false, false, false, false, false, false, false, false, false] rfl rfl (by kernel_rfl) (fun _ _ _ h => h) (Or.inl ⟨by rfl, ?_⟩) ?_ ?_
                rotate_left
                · intro w'
                  go_simp
                  with_reducible rfl
                rotate_left
                · simp only [Act.put, List.setIfInBounds_toArray, List.set_cons_zero, List.set_cons_succ, i64_w, i32_w]
                  rfl
                refine pure_ (i := 8) (N := some 93) (v := ?_) (a' := ?_) #[true, true, true, true, true, true, true, false, true, false, false, false, false, false, false, false] rfl rfl (by kernel_rfl) (fun _ _ _ h => h) (Or.inl ⟨by rfl, ?_⟩) ?_ ?_
                rotate_left
                · intro w'
                  go_simp
                  with_reducible rfl
                rotate_left
                · simp only [Act.put, List.setIfInBounds_toArray, List.set_cons_zero, List.set_cons_succ, i64_w, i32_w]
                  rfl
                refine pure_ (i := 9) (N := some 94) (v := ?_) (a' := ?_) #[true, true, true, true, true, true, true, false, true, true, false, false, false, false, false, false] rfl rfl (by kernel_rfl) (fun _ _ _ h => h) (Or.inl ⟨by rfl, ?_⟩) ?_ ?_
                rotate_left
                · intro w'
                  go_simp
                  with_reducible rfl
                rotate_left
                · simp only [Act.put, List.setIfInBounds_toArray, List.set_cons_zero, List.set_cons_succ, i64_w, i32_w]
                  rfl
                refine pure_ (i := 10) (N := some 95) (v := ?_) (a' := ?_) #[true, true, true, true, true, true, true, false, true, true, true, false, false, false, false, false] rfl rfl (by kernel_rfl) (fun _ _ _ h => h) (Or.inl ⟨by rfl, ?_⟩) ?_ ?_
                rotate_left
                · intro w'
                  go_simp
                  with_reducible rfl
                rotate_left
                · simp only [Act.put, List.setIfInBounds_toArray, List.set_cons_zero, List.set_cons_succ, i64_w, i32_w]
                  rfl
                refine take_ (i := 7) (N := some 92) (v := ?_) (a' := ?_) #[true, true, true, true, true, true, true, true, true, true, true, false, false, false, false, false] rfl rfl (by kernel_rfl) (fun _ _ _ h => h) (Or.inl ⟨by rfl, ?_⟩) hHeld ?_ ?_
                rotate_left
                · rintro w' ⟨s0, s1⟩
                  go_simp
                  with_reducible rfl
                rotate_left
                · simp only [Act.put, List.setIfInBounds_toArray, List.set_cons_zero, List.set_cons_succ, i64_w, i32_w]
                  rfl
                refine take_ (i := 11) (N := some 96) (v := ?_) (a' := ?_) #[true, true, true, true, true, true, true, true, true, true, true, true, false, false, false, false] rfl rfl (by kernel_rfl) (fun _ _ _ h => h) (Or.inl ⟨by rfl, ?_⟩) hHeld ?_ ?_
                rotate_left
                · rintro w' ⟨s0, s1⟩
                  go_simp
                  with_reducible rfl
                rotate_left
                · simp only [Act.put, List.setIfInBounds_toArray, List.set_cons_zero, List.set_cons_succ, i64_w, i32_w]
                  rfl
                refine pure_ (i := 12) (N := some 97) (v := ?_) (a' := ?_) #[true, true, true, true, true, true, true, true, true, true, true, true, true, false, false, false] rfl rfl (by kernel_rfl) (fun _ _ _ h => h) (Or.inl ⟨by rfl, ?_⟩) ?_ ?_
                rotate_left
                · intro w'
                  go_simp
                  with_reducible rfl
                rotate_left
                · simp only [Act.put, List.setIfInBounds_toArray, List.set_cons_zero, List.set_cons_succ, i64_w, i32_w]
                  rfl
                refine last_ (i := 13) (N := none) #[true, true, true, true, true, true, true, true, true, true, true, true, true, true, false, false] rfl rfl (by kernel_rfl) (by decide) (fun K hK => ?_)
                refine skip_ (w1 := ?_) (by rfl) rfl ?_ ?_
                rotate_left
                · go_simp
                  rfl
                refine hK.out _ _ ?_
                clear hK K
                refine pure_ (i := 14) (N := some 98) (v := ?_) (a' := ?_) #[true, true, true, true, true, true, true, true, true, true, true, true, true, true, true, false] rfl rfl (by kernel_rfl) (fun _ _ _ h => h) (Or.inl ⟨by rfl, ?_⟩) ?_ ?_
                rotate_left
                · intro w'
                  go_simp
                  with_reducible rfl
                rotate_left
                · simp only [Act.put, List.setIfInBounds_toArray, List.set_cons_zero, List.set_cons_succ, i64_w, i32_w]
                  rfl
                refine last_ (i := 15) (N := none) #[true, true, true, true, true, true, true, true, true, true, true, true, true, true, true, true] rfl rfl (by kernel_rfl) (by decide) (fun K hK => ?_)
                refine skip_ (w1 := ?_) (by rfl) rfl ?_ ?_
                rotate_left
                · go_simp
                  rfl
                refine hK.out _ _ ?_
                clear hK K
                refine done_ (by kernel_rfl) ?_
                clear cb1 cb2 fb1 fb2 hv2 hv3 hv4 hHeld
                generalize ((w5.setCell ⟨go, k, none⟩ (.slice (some ⟨bp2, 0, none⟩) i cp2)).setCell ⟨go, p, none⟩ (.slice (some ⟨bk2, 0, none⟩) i ck2)).drew = w6 at *
                generalize swp bo k p = bo2 at *
                generalize swp co k p = co2 at *
                have hST : St2 w w6 ga gca go gco i ba2 ca2 bo2 co2 (swap2 k p s) := HSB.out
                unfold normed at HG2
                generalize swap2 k p s = s1 at *
                have hx256 : x < 256 := by rw [← HX2.out]; exact hST.a.val k k hlt hlt
                have hInv : ∀ W, Calls Try.prog 64 #[.int .u8 (x : Nat)] W fun e w' => e = .returned (.int .u8 ((GfM.P x 254 : Nat) : Int)) ∧ Drawn0 W w' := fun W => flintref5_inverse.calls 400 _ _ W (GaFacts.rinv_ok 400 x (by omega) hx256)
                have HIv := Aside0.mk hInv
                have crow := hST.a.grid.cell hlt
                have cel := (hST.a.grid.row k hlt).cell hlt
                rw [HX2.out] at cel
                have hy := GfM.P_lt x 254
                have hSa : ∀ W, St2 w W ga gca go gco i ba2 ca2 bo2 co2 s1 → Calls Try.prog 65 #[.slice (some ⟨ba2 k, 0, none⟩) i (ca2 k), .int .u8 ((GfM.P x 254 : Nat) : Int)] W fun e w' => e = .returned (.tuple #[]) ∧ St2 w w' ga gca go gco i ba2 ca2 bo2 co2 (upd s1.1 k (fun j => GfM.M (s1.1 k j) (GfM.P x 254)), s1.2) := fun W h => by
                  refine (gscale62 W (ba2 k) i _ (ca2 k) (s1.1 k) (h.a.grid.row k hlt) (fun j hj => h.a.val k j hlt hj) hy (by omega)).mono ?_
                  rintro e w' ⟨rfl, hg, hR⟩
                  exact ⟨rfl, h.rowA hlt hg hR (fun j hj => GfM.M_lt _ _ (h.a.val k j hlt hj))⟩
                have hSo : ∀ W, St2 w W ga gca go gco i ba2 ca2 bo2 co2 (upd s1.1 k (fun j => GfM.M (s1.1 k j) (GfM.P x 254)), s1.2) → W.cell? ⟨go, k, none⟩ = some (.slice (some ⟨bo2 k, 0, none⟩) i (co2 k)) ∧ Calls Try.prog 65 #[.slice (some ⟨bo2 k, 0, none⟩) i (co2 k), .int .u8 ((GfM.P x 254 : Nat) : Int)] W fun e w' => e = .returned (.tuple #[]) ∧ St2 w w' ga gca go gco i ba2 ca2 bo2 co2 (norm k (GfM.P x 254) s1) := fun W h => by
                  refine ⟨h.o.grid.cell hlt, (gscale62 W (bo2 k) i _ (co2 k) (s1.2 k) (h.o.grid.row k hlt) (fun j hj => h.o.val k j hlt hj) hy (by omega)).mono ?_⟩
                  rintro e w' ⟨rfl, hg, hR⟩
                  exact ⟨rfl, h.rowO hlt hg hR (fun j hj => GfM.M_lt _ _ (h.o.val k j hlt hj))⟩
                have HSa := Aside0.mk hSa
                have HSo := Aside0.mk hSo
                have HST := Aside0.mk hST
                rw [HX2.out] at HG2
                clear hSa hSo hInv hST hx256 HX2
                rw [show norm k (GfM.P x 254) s1 = norm k (GfM.P x 254) s1 from rfl] at HG2
                generalize GfM.P x 254 = y at *
                generalize hs2 : norm k y s1 = s2 at *
                generalize hsu : ((upd s1.1 k (fun j => GfM.M (s1.1 k j) y), s1.2) : Sq) = su at *
                clear hs2 hsu
                go_wp2_with (first | (go_at_call 64; with_reducible refine Calls.mono (HIv.out _) ?_; rintro e w7 ⟨rfl, ⟨nd, rfl⟩⟩; have hS7 := HST.out.step (pw_below_drewN (Below.refl _ _) nd)) | (go_at_call 65; with_reducible refine Calls.mono (HSa.out _ hS7) ?_; rintro e w8 ⟨rfl, hS8⟩; obtain ⟨co8, hc8⟩ := HSo.out _ hS8) | (go_at_call 65; with_reducible refine Calls.mono hc8 ?_; rintro e w9 ⟨rfl, hS9⟩))
                clear hS7 hS8 co8 hc8 HSa HSo HST HIv crow cel
                go_loopw [12] (fun v wx => ∃ j : Nat, j ≤ i ∧ v = .int .i64 (j : Nat) ∧ St2 w wx ga gca go gco i ba2 ca2 bo2 co2 (elimN k j s2)) (fun v _ => i - (intOf v).toNat)
                case atStart => exact ⟨0, Nat.zero_le _, rfl, hS9⟩
                case round =>
                  clear hS9
                  obtain ⟨j, hj, rfl, hSj⟩ := hrel
                  by_cases hltj : j < i
                  · have HN : Aside0 (elimN k (j + 1) s2 = elim1 k j (elimN k j s2)) := ⟨rfl⟩
                    generalize elimN k j s2 = s3 at *
                    have cj := hSj.a.grid.cell hltj
                    have ck := hSj.a.grid.cell hlt
                    have cel := (hSj.a.grid.row j hltj).cell hlt
                    have hz256 := hSj.a.val j k hltj hlt
                    have HSj := Aside0.mk hSj
                    clear hSj
                    generalize hz : s3.1 j k = z at *
                    have q1 : (0 : Int) ≤ (j : Int) := by omega
                    have q2 : (j : Int) < (i : Int) := by omega
                    have q3 : (0 : Int) ≤ (k : Int) := by omega
                    have q4 : (k : Int) < (i : Int) := by omega
                    by_cases e : j = k
                    · have be : ((j : Int) != (k : Int)) = false := by simp; omega
                      have HE : Aside0 (elim1 k j s3 = s3) := ⟨by unfold elim1; rw [if_neg (by omega)]⟩
                      clear e hz
                      go_wp2
                      go_roundw
                      case rel => exact ⟨j + 1, by omega, by go_num, by rw [HN.out, HE.out]; exact HSj.out⟩
                      case measure => simp [intOf]; omega
                    · have be : ((j : Int) != (k : Int)) = true := by simp; omega
                      by_cases ez : z = 0
                      · have bz : ((z : Int) != 0) = false := by simp; omega
                        have HE : Aside0 (elim1 k j s3 = s3) := ⟨by unfold elim1; rw [if_neg (by omega)]⟩
                        clear e ez hz
                        go_wp2
                        go_roundw
                        case rel => exact ⟨j + 1, by omega, by go_num, by rw [HN.out, HE.out]; exact HSj.out⟩
                        case measure => simp [intOf]; omega
                      · have bz : ((z : Int) != 0) = true := by simp; omega
                        have HE : Aside0 (elim1 k j s3 = add1 j k z s3) := ⟨by unfold elim1; rw [if_pos (by omega), hz]⟩
                        have hne := Aside0.mk e
                        clear e ez hz
                        have hMa : ∀ W, St2 w W ga gca go gco i ba2 ca2 bo2 co2 s3 → Calls Try.prog 66 #[.slice (some ⟨ba2 j, 0, none⟩) i (ca2 j), .slice (some ⟨ba2 k, 0, none⟩) i (ca2 k), .int .u8 (z : Nat)] W fun e w' => e = .returned (.tuple #[]) ∧ St2 w w' ga gca go gco i ba2 ca2 bo2 co2 (upd s3.1 j (mixf (s3.1 j) (s3.1 k) z), s3.2) := fun W h => by
                          refine (gmix63 W (ba2 j) (ba2 k) i z (ca2 j) (ca2 k) (s3.1 j) (s3.1 k) (h.a.grid.row j hltj) (h.a.grid.row k hlt) (fun e => hne.out (h.a.grid.inj k j hlt hltj e).symm) (fun q hq => h.a.val j q hltj hq) (fun q hq => h.a.val k q hlt hq) hz256 (by omega)).mono ?_
                          rintro e w' ⟨rfl, hg, hR⟩
                          exact ⟨rfl, h.rowA hltj hg hR (fun q hq => mixf_lt (h.a.val j q hltj hq) (h.a.val k q hlt hq))⟩
                        have hMo : ∀ W, St2 w W ga gca go gco i ba2 ca2 bo2 co2 (upd s3.1 j (mixf (s3.1 j) (s3.1 k) z), s3.2) → Calls Try.prog 66 #[.slice (some ⟨bo2 j, 0, none⟩) i (co2 j), .slice (some ⟨bo2 k, 0, none⟩) i (co2 k), .int .u8 (z : Nat)] W fun e w' => e = .returned (.tuple #[]) ∧ St2 w w' ga gca go gco i ba2 ca2 bo2 co2 (add1 j k z s3) := fun W h => by
                          refine (gmix63 W (bo2 j) (bo2 k) i z (co2 j) (co2 k) (s3.2 j) (s3.2 k) (h.o.grid.row j hltj) (h.o.grid.row k hlt) (fun e => hne.out (h.o.grid.inj k j hlt hltj e).symm) (fun q hq => h.o.val j q hltj hq) (fun q hq => h.o.val k q hlt hq) hz256 (by omega)).mono ?_
                          rintro e w' ⟨rfl, hg, hR⟩
                          exact ⟨rfl, h.rowO hltj hg hR (fun q hq => mixf_lt (h.o.val j q hltj hq) (h.o.val k q hlt hq))⟩
                        have HMa := Aside0.mk hMa
                        have HMo := Aside0.mk hMo
                        clear hMa hMo
                        generalize (upd s3.1 j (mixf (s3.1 j) (s3.1 k) z), s3.2) = s4 at *
                        generalize add1 j k z s3 = s5 at *
                        go_wp2
                        have hS3 := HSj.out.step (Below.refl _ _).drew
                        refine start_ (n := 10) (S := fun w' => w'.cell? ⟨ga, j, none⟩ = some (.slice (some ⟨ba2 j, 0, none⟩) i (ca2 j)) ∧ w'.cell? ⟨ga, k, none⟩ = some (.slice (some ⟨ba2 k, 0, none⟩) i (ca2 k))) (ds := [9]) #[false, false, false, false, false, false, false, false, false, false] (by kernel_rfl) rfl rfl ⟨cj, ck⟩ (fun hHeld => ?_)
                        refine pure_ (i := 0) (N := some 144) (v := ?_) (a' := ?_) #[true, false, false, false, false, false, false, false, false, false] rfl rfl (by kernel_rfl) (fun _ _ _ h => h) (Or.inl ⟨by rfl, ?_⟩) ?_ ?_
                        rotate_left
                        · intro w'
                          go_simp
                          with_reducible rfl
                        rotate_left
                        · simp only [Act.put, List.setIfInBounds_toArray, List.set_cons_zero, List.set_cons_succ, i64_w, i32_w]
                          rfl
                        refine pure_ (i := 1) (N := some 145) (v := ?_) (a' := ?_) #[true, true, false, false, false, false, false, false, false, false] rfl rfl (by kernel_rfl) (fun _ _ _ h => h) (Or.inl ⟨by rfl, ?_⟩) ?_ ?_
                        rotate_left
                        · intro w'
                          go_simp
                          with_reducible rfl
                        rotate_left
                        · simp only [Act.put, List.setIfInBounds_toArray, List.set_cons_zero, List.set_cons_succ, i64_w, i32_w]
                          rfl
                        refine pure_ (i := 2) (N := some 146) (v := ?_) (a' := ?_) #[true, true, true, false, false, false, false, false, false, false] rfl rfl (by kernel_rfl) (fun _ _ _ h => h) (Or.inl ⟨by rfl, ?_⟩) ?_ ?_
                        rotate_left
                        · intro w'
                          go_simp
                          with_reducible rfl
                        rotate_left
                        · simp only [Act.put, List.setIfInBounds_toArray, List.set_cons_zero, List.set_cons_succ, i64_w, i32_w]
                          rfl
                        refine pure_ (i := 4) (N := some 148) (v := ?_) (a' := ?_) #[true, true, true, false, true, false, false, false, false, false] rfl rfl (by kernel_rfl) (fun _ _ _ h => h) (Or.inl ⟨by rfl, ?_⟩) ?_ ?_
                        rotate_left
                        · intro w'
                          go_simp
                          with_reducible rfl
                        rotate_left
                        · simp only [Act.put, List.setIfInBounds_toArray, List.set_cons_zero, List.set_cons_succ, i64_w, i32_w]
                          rfl
                        refine pure_ (i := 5) (N := some 149) (v := ?_) (a' := ?_) #[true, true, true, false, true, true, false, false, false, false] rfl rfl (by kernel_rfl) (fun _ _ _ h => h) (Or.inl ⟨by rfl, ?_⟩) ?_ ?_
                        rotate_left
                        · intro w'
                          go_simp
                          with_reducible rfl
                        rotate_left
                        · simp only [Act.put, List.setIfInBounds_toArray, List.set_cons_zero, List.set_cons_succ, i64_w, i32_w]
                          rfl
                        refine pure_ (i := 6) (N := some 150) (v := ?_) (a' := ?_) #[true, true, true, false, true, true, true, false, false, false] rfl rfl (by kernel_rfl) (fun _ _ _ h => h) (Or.inl ⟨by rfl, ?_⟩) ?_ ?_
                        rotate_left
                        · intro w'
                          go_simp
                          with_reducible rfl
                        rotate_left
                        · simp only [Act.put, List.setIfInBounds_toArray, List.set_cons_zero, List.set_cons_succ, i64_w, i32_w]
                          rfl
                        refine pure_ (i := 8) (N := some 152) (v := ?_) (a' := ?_) #[true, true, true, false, true, true, true, false, true, false] rfl rfl (by kernel_rfl) (fun _ _ _ h => h) (Or.inl ⟨by rfl, ?_⟩) ?_ ?_
                        rotate_left
                        · intro w'
                          go_simp
                          with_reducible rfl
                        rotate_left
                        · simp only [Act.put, List.setIfInBounds_toArray, List.set_cons_zero, List.set_cons_succ, i64_w, i32_w]
                          rfl
                        refine take_ (i := 3) (N := some 147) (v := ?_) (a' := ?_) #[true, true, true, true, true, true, true, false, true, false] rfl rfl (by kernel_rfl) (fun _ _ _ h => h) (Or.inl ⟨by rfl, ?_⟩) hHeld ?_ ?_
                        rotate_left
                        · rintro w' ⟨s0, s1⟩
                          go_simp
                          with_reducible rfl
                        rotate_left
                        · simp only [Act.put, List.setIfInBounds_toArray, List.set_cons_zero, List.set_cons_succ, i64_w, i32_w]
                          rfl
                        refine take_ (i := 7) (N := some 151) (v := ?_) (a' := ?_) #[true, true, true, true, true, true, true, true, true, false] rfl rfl (by kernel_rfl) (fun _ _ _ h => h) (Or.inl ⟨by rfl, ?_⟩) hHeld ?_ ?_
                        rotate_left
                        · rintro w' ⟨s0, s1⟩
                          go_simp
                          with_reducible rfl
                        rotate_left
                        · simp only [Act.put, List.setIfInBounds_toArray, List.set_cons_zero, List.set_cons_succ, i64_w, i32_w]
                          rfl
                        refine last_ (i := 9) (N := some 153) #[true, true, true, true, true, true, true, true, true, true] rfl rfl (by kernel_rfl) (by decide) (fun K hK => ?_)
                        refine goes_ Try.func66 (by kernel_rfl) rfl #[.slice (some ⟨ba2 j, 0, none⟩) i (ca2 j), .slice (some ⟨ba2 k, 0, none⟩) i (ca2 k), .int .u8 (z : Nat)] (by rfl) rfl rfl (by simp only [List.map_toArray, List.map_cons, List.map_nil]; rfl) ?_
                        refine Calls.mono (HMa.out _ hS3) ?_
                        rintro e w4 ⟨rfl, hS4⟩
                        refine ⟨_, rfl, ?_⟩
                        refine hK.out _ _ ?_
                        clear hK K
                        refine norm_ (a' := ?_) ?_ ?_
                        rotate_left
                        · show Act.put _ (some 153) _ = _
                          simp only [Act.put, List.setIfInBounds_toArray, List.set_cons_zero, List.set_cons_succ, i64_w, i32_w]
                          rfl
                        refine done_ (by kernel_rfl) ?_
                        have oj := hS4.o.grid.cell hltj
                        have ok := hS4.o.grid.cell hlt
                        have HS4 := Aside0.mk hS4
                        clear hS3 cj ck cel hS4 hHeld
                        go_wp2
                        have hS5 := HS4.out.step (Below.refl _ _).drew
                        refine start_ (n := 10) (S := fun w' => w'.cell? ⟨go, j, none⟩ = some (.slice (some ⟨bo2 j, 0, none⟩) i (co2 j)) ∧ w'.cell? ⟨go, k, none⟩ = some (.slice (some ⟨bo2 k, 0, none⟩) i (co2 k))) (ds := [9]) #[false, false, false, false, false, false, false, false, false, false] (by kernel_rfl) rfl rfl ⟨oj, ok⟩ (fun hHeld => ?_)
                        refine pure_ (i := 0) (N := some 154) (v := ?_) (a' := ?_) #[true, false, false, false, false, false, false, false, false, false] rfl rfl (by kernel_rfl) (fun _ _ _ h => h) (Or.inl ⟨by rfl, ?_⟩) ?_ ?_
                        rotate_left
                        · intro w'
                          go_simp
                          with_reducible rfl
                        rotate_left
                        · simp only [Act.put, List.setIfInBounds_toArray, List.set_cons_zero, List.set_cons_succ, i64_w, i32_w]
                          rfl
                        refine pure_ (i := 1) (N := some 155) (v := ?_) (a' := ?_) #[true, true, false, false, false, false, false, false, false, false] rfl rfl (by kernel_rfl) (fun _ _ _ h => h) (Or.inl ⟨by rfl, ?_⟩) ?_ ?_
                        rotate_left
                        · intro w'
                          go_simp
                          with_reducible rfl
                        rotate_left
                        · simp only [Act.put, List.setIfInBounds_toArray, List.set_cons_zero, List.set_cons_succ, i64_w, i32_w]
                          rfl
                        refine pure_ (i := 2) (N := some 156) (v := ?_) (a' := ?_) #[true, true, true, false, false, false, false, false, false, false] rfl rfl (by kernel_rfl) (fun _ _ _ h => h) (Or.inl ⟨by rfl, ?_⟩) ?_ ?_
                        rotate_left
                        · intro w'
                          go_simp
                          with_reducible rfl
                        rotate_left
                        · simp only [Act.put, List.setIfInBounds_toArray, List.set_cons_zero, List.set_cons_succ, i64_w, i32_w]
                          rfl
                        refine pure_ (i := 4) (N := some 158) (v := ?_) (a' := ?_) #[true, true, true, false, true, false, false, false, false, false] rfl rfl (by kernel_rfl) (fun _ _ _ h => h) (Or.inl ⟨by rfl, ?_⟩) ?_ ?_
                        rotate_left
                        · intro w'
                          go_simp
                          with_reducible rfl
                        rotate_left
                        · simp only [Act.put, List.setIfInBounds_toArray, List.set_cons_zero, List.set_cons_succ, i64_w, i32_w]
                          rfl
                        refine pure_ (i := 5) (N := some 159) (v := ?_) (a' := ?_) #[true, true, true, false, true, true, false, false, false, false] rfl rfl (by kernel_rfl) (fun _ _ _ h => h) (Or.inl ⟨by rfl, ?_⟩) ?_ ?_
                        rotate_left
                        · intro w'
                          go_simp
                          with_reducible rfl
                        rotate_left
                        · simp only [Act.put, List.setIfInBounds_toArray, List.set_cons_zero, List.set_cons_succ, i64_w, i32_w]
                          rfl
                        refine pure_ (i := 6) (N := some 160) (v := ?_) (a' := ?_) #[true, true, true, false, true, true, true, false, false, false] rfl rfl (by kernel_rfl) (fun _ _ _ h => h) (Or.inl ⟨by rfl, ?_⟩) ?_ ?_
                        rotate_left
                        · intro w'
                          go_simp
                          with_reducible rfl
                        rotate_left
                        · simp only [Act.put, List.setIfInBounds_toArray, List.set_cons_zero, List.set_cons_succ, i64_w, i32_w]
                          rfl
                        refine pure_ (i := 8) (N := some 162) (v := ?_) (a' := ?_) #[true, true, true, false, true, true, true, false, true, false] rfl rfl (by kernel_rfl) (fun _ _ _ h => h) (Or.inl ⟨by rfl, ?_⟩) ?_ ?_
                        rotate_left
                        · intro w'
                          go_simp
                          with_reducible rfl
                        rotate_left
                        · simp only [Act.put, List.setIfInBounds_toArray, List.set_cons_zero, List.set_cons_succ, i64_w, i32_w]
                          rfl
                        refine take_ (i := 3) (N := some 157) (v := ?_) (a' := ?_) #[true, true, true, true, true, true, true, false, true, false] rfl rfl (by kernel_rfl) (fun _ _ _ h => h) (Or.inl ⟨by rfl, ?_⟩) hHeld ?_ ?_
                        rotate_left
                        · rintro w' ⟨s0, s1⟩
                          go_simp
                          with_reducible rfl
                        rotate_left
                        · simp only [Act.put, List.setIfInBounds_toArray, List.set_cons_zero, List.set_cons_succ, i64_w, i32_w]
                          rfl
                        refine take_ (i := 7) (N := some 161) (v := ?_) (a' := ?_) #[true, true, true, true, true, true, true, true, true, false] rfl rfl (by kernel_rfl) (fun _ _ _ h => h) (Or.inl ⟨by rfl, ?_⟩) hHeld ?_ ?_
                        rotate_left
                        · rintro w' ⟨s0, s1⟩
                          go_simp
                          with_reducible rfl
                        rotate_left
                        · simp only [Act.put, List.setIfInBounds_toArray, List.set_cons_zero, List.set_cons_succ, i64_w, i32_w]
                          rfl
                        refine last_ (i := 9) (N := some 163) #[true, true, true, true, true, true, true, true, true, true] rfl rfl (by kernel_rfl) (by decide) (fun K hK => ?_)
                        refine goes_ Try.func66 (by kernel_rfl) rfl #[.slice (some ⟨bo2 j, 0, none⟩) i (co2 j), .slice (some ⟨bo2 k, 0, none⟩) i (co2 k), .int .u8 (z : Nat)] (by rfl) rfl rfl (by simp only [List.map_toArray, List.map_cons, List.map_nil]; rfl) ?_
                        refine Calls.mono (HMo.out _ hS5) ?_
                        rintro e w5 ⟨rfl, hS6⟩
                        refine ⟨_, rfl, ?_⟩
                        refine hK.out _ _ ?_
                        clear hK K
                        refine norm_ (a' := ?_) ?_ ?_
                        rotate_left
                        · show Act.put _ (some 163) _ = _
                          simp only [Act.put, List.setIfInBounds_toArray, List.set_cons_zero, List.set_cons_succ, i64_w, i32_w]
                          rfl
                        refine done_ (by kernel_rfl) ?_
                        have HS6 := Aside0.mk hS6
                        clear hS5 oj ok hS6 hHeld
                        go_wp2
                        go_roundw
                        case rel => exact ⟨j + 1, by omega, by go_num, by rw [HN.out, HE.out]; exact HS6.out⟩
                        case measure => simp [intOf]; omega
                  · obtain rfl : j = i := by omega
                    go_wp2
                    go_roundw
                    case rel => exact ⟨k + 1, ba2, ca2, bo2, co2, _, by omega, by go_num, HG2.out, hSj⟩
                    case measure => simp [intOf]; omega
            · obtain rfl : p = i := by omega
              have hpv : pivot p k s.1 < 0 := by
                unfold pivot
                rw [firstIdx_none fun q hq => by
                  have := HNo.out (k + q) (by omega) (by omega)
                  simp [this]]
                omega
              have HNn := Aside0.mk (gj_none HG.out hpv p hlt)
              have HBl := Aside0.mk hSt.below
              clear hSt hpv
              go_wp2
              go_ret2
              exact .inl ⟨HNn.out, rfl, HBl.out⟩
        · obtain rfl : k = i := by omega
          have HSe := Aside0.mk hSt
          have HGe := Aside0.mk hgj
          clear hSt hgj
          go_wp2
          go_ret2
          exact .inr ⟨ga, gca, go, gco, ba, ca, bo, co, s, HGe.out, rfl, HSe.out⟩
end Go.Proofs.Ytjolnjckgoilpaa.Gf
end

section
/-
  The reference's Inverse, as its callers see it.
-/
set_option linter.unusedVariables false
set_option linter.unusedSimpArgs false
namespace Go.Proofs.Ytjolnjckgoilpaa.Gf
open Go.RowKit Go.Proofs.YtjolnjckgoilpaaW.PrintWords Go.Proofs.YtjolnjckgoilpaaW.PrintLast Go.Proofs.Ytjolnjckgoilpaa.PRa
open Go.Proofs.Ytjolnjckgoilpaa.PRa (flintref5_Right.calls)

end Go.Proofs.Ytjolnjckgoilpaa.Gf
end
