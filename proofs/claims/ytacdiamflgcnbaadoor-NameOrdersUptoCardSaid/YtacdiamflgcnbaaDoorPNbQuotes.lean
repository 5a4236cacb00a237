/- Laid by a program of this session (myprint.py): Go functions as Lean functions, each with the proof that the machine comes to just these answers. -/
import Derived.Test.YtacdiamflgcnbaaDoorPNax0
import Derived.Test.YtacdiamflgcnbaaDoorPNax1
import Derived.Test.YtacdiamflgcnbaaDoorPNax2
import Derived.Test.YtacdiamflgcnbaaDoorPNax9
import Derived.Test.YtacdiamflgcnbaaDoorPNax10
import Derived.Test.YtacdiamflgcnbaaDoorPNbUnq
namespace Go.Proofs.YtacdiamflgcnbaaDoor.PNa
open Go.RowKit Go.Proofs.YtacdiamflgcnbaaDoorW.PrintWords Go.Proofs.YtacdiamflgcnbaaDoorW.PrintLast Go.Proofs.YtacdiamflgcnbaaDoorW.PrintMore
attribute [local go_sem] max2_int min2_int max_two min_two max_three min_three max_four min_four   -- for this text's walks alone
open Go.Proofs.YtacdiamflgcnbaaDoor Go.Proofs.YtacdiamflgcnbaaDoor.Nm
set_option linter.unusedVariables false
set_option linter.unusedSimpArgs false

/-! ### flintlaw2_NameQuotes: function 8 -/
def flintlaw2_NameQuotes.j0 : Nat → ByteArray → Bool → Option (Bool)
  | 0, _, _ => none
  | k + 1, x0, x36 => if x36 = true then (some false) else ((name_Quote.f x0).bind fun t295 => ((name_Unquote.f k t295).bind fun bt296 => (if bt296.2 = 0 then (some (bt296.1.toList == x0.toList)) else (some false))))
def flintlaw2_NameQuotes.f (k : Nat) (a0 : ByteArray) : Option (Bool) := (flintlaw2_known.f k).bind fun t288 => (if t288 = true then (if (a0.size : Int) > 32768 then (some true) else ((name_Unquote.f k a0).bind fun bt289 => ((flintref2_Unquote.f k a0).bind fun bt291 => (if bt289.1.toList = bt291.1.toList then (if bt289.2 = bt291.2 then ((name_Quote.f a0).bind fun t293 => ((flintref2_Quote.f k a0).bind fun t294 => (flintlaw2_NameQuotes.j0 k a0 (t293.toList != t294.toList)))) else (flintlaw2_NameQuotes.j0 k a0 true)) else (flintlaw2_NameQuotes.j0 k a0 true))))) else (some false))
theorem flintlaw2_NameQuotes.mono_l : ∀ k, (∀ y0 y1, LeO (flintlaw2_NameQuotes.j0 k y0 y1) (flintlaw2_NameQuotes.j0 (k + 1) y0 y1))
  | 0 => fun _ _ r h => by simp [flintlaw2_NameQuotes.j0] at h
  | k + 1 => by
    have ih0 := flintlaw2_NameQuotes.mono_l k
    · intro y0 y1
      unfold flintlaw2_NameQuotes.j0
      repeat' first
      | (with_reducible exact ih0 _ _)
      | (with_reducible exact flintlaw2_known.mono _)
      | (with_reducible exact flintref2_Quote.mono _ _)
      | (with_reducible exact flintref2_Unquote.mono _ _)
      | (with_reducible exact name_Unquote.mono _ _)
      | (with_reducible exact LeO.refl _)
      | (with_reducible exact LeO.none _)
      | (with_reducible refine LeO.ite ?_ ?_)
      | (with_reducible refine LeO.bind ?_ (fun _ => ?_))
      | exact ih0 _ _
      | exact flintlaw2_known.mono _
      | exact flintref2_Quote.mono _ _
      | exact flintref2_Unquote.mono _ _
      | exact name_Unquote.mono _ _
      | exact LeO.none _
      | refine LeO.ite ?_ ?_
      | refine LeO.bind ?_ (fun _ => ?_)
theorem flintlaw2_NameQuotes.mono : ∀ a0 k, LeO (flintlaw2_NameQuotes.f k a0) (flintlaw2_NameQuotes.f (k + 1) a0) := by
  intro a0 k
  have ih0 := flintlaw2_NameQuotes.mono_l k
  unfold flintlaw2_NameQuotes.f
  repeat' first
      | (with_reducible exact ih0 _ _)
      | (with_reducible exact flintlaw2_known.mono _)
      | (with_reducible exact flintref2_Quote.mono _ _)
      | (with_reducible exact flintref2_Unquote.mono _ _)
      | (with_reducible exact name_Unquote.mono _ _)
      | (with_reducible exact LeO.refl _)
      | (with_reducible exact LeO.none _)
      | (with_reducible refine LeO.ite ?_ ?_)
      | (with_reducible refine LeO.bind ?_ (fun _ => ?_))
      | exact ih0 _ _
      | exact flintlaw2_known.mono _
      | exact flintref2_Quote.mono _ _
      | exact flintref2_Unquote.mono _ _
      | exact name_Unquote.mono _ _
      | exact LeO.none _
      | refine LeO.ite ?_ ?_
      | refine LeO.bind ?_ (fun _ => ?_)
set_option maxHeartbeats 8000000 in
set_option maxRecDepth 100000 in
theorem flintlaw2_NameQuotes.calls (k : Nat) (a0 : ByteArray) (r : Bool) (w : World) (h : flintlaw2_NameQuotes.f k a0 = some r) (hT : Aside0 (Tabs w) := by first | assumption | (with_reducible repeat (first | apply tabs_drewN | apply tabs_drew | apply tabs_alloc)) <;> (first | assumption | exact tabs_step ‹_› ‹_›)) :
    Calls Tryd.prog 8 #[.string a0] w fun e w' => e = .returned (.bool r) ∧ Below w.heap.size w w' := by
  have HB := Aside0.mk (Below.refl w.heap.size w)
  have H : ((flintlaw2_known.f k).bind fun t288 => (if t288 = true then (if (a0.size : Int) > 32768 then (some true) else ((name_Unquote.f k a0).bind fun bt289 => ((flintref2_Unquote.f k a0).bind fun bt291 => (if bt289.1.toList = bt291.1.toList then (if bt289.2 = bt291.2 then ((name_Quote.f a0).bind fun t293 => ((flintref2_Quote.f k a0).bind fun t294 => (flintlaw2_NameQuotes.j0 k a0 (t293.toList != t294.toList)))) else (flintlaw2_NameQuotes.j0 k a0 true)) else (flintlaw2_NameQuotes.j0 k a0 true))))) else (some false))) = some r := h
  clear h
  replace H := Option.bind_eq_some_iff.mp H
  obtain ⟨t288, A20, H⟩ := H
  replace H : (if t288 = true then (if (a0.size : Int) > 32768 then (some true) else ((name_Unquote.f k a0).bind fun bt289 => ((flintref2_Unquote.f k a0).bind fun bt291 => (if bt289.1.toList = bt291.1.toList then (if bt289.2 = bt291.2 then ((name_Quote.f a0).bind fun t293 => ((flintref2_Quote.f k a0).bind fun t294 => (flintlaw2_NameQuotes.j0 k a0 (t293.toList != t294.toList)))) else (flintlaw2_NameQuotes.j0 k a0 true)) else (flintlaw2_NameQuotes.j0 k a0 true))))) else (some false)) = some r := H
  have A2 := Aside0.mk A20
  clear A20
  by_cases c3 : t288 = true
  · subst c3
    have H1 : (if (a0.size : Int) > 32768 then (some true) else ((name_Unquote.f k a0).bind fun bt289 => ((flintref2_Unquote.f k a0).bind fun bt291 => (if bt289.1.toList = bt291.1.toList then (if bt289.2 = bt291.2 then ((name_Quote.f a0).bind fun t293 => ((flintref2_Quote.f k a0).bind fun t294 => (flintlaw2_NameQuotes.j0 k a0 (t293.toList != t294.toList)))) else (flintlaw2_NameQuotes.j0 k a0 true)) else (flintlaw2_NameQuotes.j0 k a0 true))))) = some r := by rw [if_pos rfl] at H; exact H
    clear H
    have H := H1
    clear H1
    by_cases c4 : (a0.size : Int) > 32768
    · rw [if_pos c4] at H
      have c4b0 : decide (32768 < (a0.size : Int)) = true := decide_eq_true c4
      have c4b1 : decide (32768 < a0.size) = true := decide_eq_true (by omega)
      clear c4
      obtain rfl := Option.some.inj H
      go_enter Tryd.func8, Tryd.ntmps8
      go_wp2_with (first | ((with_reducible refine gate_callee (f := 10) rfl ?_); refine goesL_ (some 7) rfl rfl Tryd.func10 (by kernel_rfl) rfl #[] rfl (by (try simp only [List.map_toArray, List.map_cons, List.map_nil]); first | done | rfl | (simp only [List.length_drop, List.length_take]; rfl)) ?_; (with_reducible refine (flintlaw2_known.calls k  true _ A2.out).mono ?_); rintro e w5 ⟨rfl, hb⟩; refine ⟨_, rfl, ?_⟩; have n0_ := Aside0.mk (below_step (by repeat (first | (with_reducible first | exact HB.out | apply below_alloc | apply pw_below_drewN | apply below_drew1) | exact HB.out)) hb); clear HB; have HB := n0_; clear n0_; (try clear hb); (try clear hb2); (try clear hk); (try clear hi)))
      go_ret
      exact ⟨by first | rfl | (simp [errW_none, errW_some] <;> rfl) | (simp [*, errW_none, errW_some] <;> rfl), by repeat (first | (with_reducible first | exact HB.out | apply below_alloc | apply pw_below_drewN | apply below_drew1) | exact HB.out)⟩
    · rw [if_neg c4] at H
      have c4b0 : decide (32768 < (a0.size : Int)) = false := decide_eq_false c4
      have c4b1 : decide (32768 < a0.size) = false := decide_eq_false (by omega)
      clear c4
      replace H := Option.bind_eq_some_iff.mp H
      obtain ⟨⟨t289, t290⟩, A60, H⟩ := H
      replace H : ((flintref2_Unquote.f k a0).bind fun bt291 => (if t289.toList = bt291.1.toList then (if t290 = bt291.2 then ((name_Quote.f a0).bind fun t293 => ((flintref2_Quote.f k a0).bind fun t294 => (flintlaw2_NameQuotes.j0 k a0 (t293.toList != t294.toList)))) else (flintlaw2_NameQuotes.j0 k a0 true)) else (flintlaw2_NameQuotes.j0 k a0 true))) = some r := H
      have A6 := Aside0.mk A60
      clear A60
      replace H := Option.bind_eq_some_iff.mp H
      obtain ⟨⟨t291, t292⟩, A70, H⟩ := H
      replace H : (if t289.toList = t291.toList then (if t290 = t292 then ((name_Quote.f a0).bind fun t293 => ((flintref2_Quote.f k a0).bind fun t294 => (flintlaw2_NameQuotes.j0 k a0 (t293.toList != t294.toList)))) else (flintlaw2_NameQuotes.j0 k a0 true)) else (flintlaw2_NameQuotes.j0 k a0 true)) = some r := H
      have A7 := Aside0.mk A70
      clear A70
      have HC8 := Aside0.mk H
      clear H
      go_enter Tryd.func8, Tryd.ntmps8
      go_upto_region 7 with (first | ((with_reducible refine gate_callee (f := 10) rfl ?_); refine goesL_ (some 7) rfl rfl Tryd.func10 (by kernel_rfl) rfl #[] rfl (by (try simp only [List.map_toArray, List.map_cons, List.map_nil]); first | done | rfl | (simp only [List.length_drop, List.length_take]; rfl)) ?_; (with_reducible refine (flintlaw2_known.calls k  true _ A2.out).mono ?_); rintro e w9 ⟨rfl, hb⟩; refine ⟨_, rfl, ?_⟩; have n0_ := Aside0.mk (below_step (by repeat (first | (with_reducible first | exact HB.out | apply below_alloc | apply pw_below_drewN | apply below_drew1) | exact HB.out)) hb); clear HB; have HB := n0_; clear n0_; (try clear hb); (try clear hb2); (try clear hk); (try clear hi)) | ((with_reducible refine gate_callee (f := 26) rfl ?_); refine goesL_ (some 14) rfl rfl Tryd.func26 (by kernel_rfl) rfl #[.string a0] rfl (by (try simp only [List.map_toArray, List.map_cons, List.map_nil]); first | done | rfl | (simp only [List.length_drop, List.length_take]; rfl)) ?_; (with_reducible refine (name_Unquote.calls k a0 t289 t290 _ A6.out).mono ?_); rintro e w10 ⟨rfl, hb⟩; refine ⟨_, rfl, ?_⟩; have n0_ := Aside0.mk (below_step (by repeat (first | (with_reducible first | exact HB.out | apply below_alloc | apply pw_below_drewN | apply below_drew1) | exact HB.out)) hb); clear HB; have HB := n0_; clear n0_; (try clear hb); (try clear hb2); (try clear hk); (try clear hi)) | ((with_reducible refine gate_callee (f := 27) rfl ?_); refine goesL_ (some 19) rfl rfl Tryd.func27 (by kernel_rfl) rfl #[.string a0] rfl (by (try simp only [List.map_toArray, List.map_cons, List.map_nil]); first | done | rfl | (simp only [List.length_drop, List.length_take]; rfl)) ?_; (with_reducible refine (flintref2_Unquote.calls k a0 t291 t292 _ A7.out).mono ?_); rintro e w11 ⟨rfl, hb⟩; refine ⟨_, rfl, ?_⟩; have n0_ := Aside0.mk (below_step (by repeat (first | (with_reducible first | exact HB.out | apply below_alloc | apply pw_below_drewN | apply below_drew1) | exact HB.out)) hb); clear HB; have HB := n0_; clear n0_; (try clear hb); (try clear hb2); (try clear hk); (try clear hi)))
      (try simp only [Act.put, List.setIfInBounds_toArray, List.set_cons_zero, List.set_cons_succ])
      go_cut [36] (fun v36 wc => ∃ (kq : Nat) (x36_7 : Bool), v36 = .bool x36_7 ∧ Aside0 (flintlaw2_NameQuotes.j0 kq a0 x36_7 = some r) ∧ Aside0 (kq ≤ k) ∧ Aside0 (Below w.heap.size w wc))
      case first =>
        have H := HC8.out
        clear HC8
        by_cases c12 : t289.toList = t291.toList
        · rw [if_pos c12] at H
          have c12b0 : (t289.toList == t291.toList) = true := beq_iff_eq.mpr c12
          have c12b1 : (t289.toList != t291.toList) = false := bne_eq_false_iff_eq.mpr c12
          clear c12
          (first | rw [c12b0] | (simp only [i64_w, i32_w]; rw [c12b0]) | skip)
          by_cases c13 : t290 = t292
          · rw [if_pos c13] at H
            have c13b0 : (t290 == t292) = true := beq_iff_eq.mpr c13
            have c13b1 : (t290 != t292) = false := bne_eq_false_iff_eq.mpr c13
            clear c13
            replace H := Option.bind_eq_some_iff.mp H
            obtain ⟨t293, A140, H⟩ := H
            replace H : ((flintref2_Quote.f k a0).bind fun t294 => (flintlaw2_NameQuotes.j0 k a0 (t293.toList != t294.toList))) = some r := H
            have A14 := Aside0.mk A140
            clear A140
            replace H := Option.bind_eq_some_iff.mp H
            obtain ⟨t294, A150, H⟩ := H
            replace H : (flintlaw2_NameQuotes.j0 k a0 (t293.toList != t294.toList)) = some r := H
            have A15 := Aside0.mk A150
            clear A150
            have H' := Aside0.mk H
            clear H
            go_wp2_with (first | (go_at_call 21; (with_reducible refine (name_Quote.calls a0 t293 _ A14.out).mono ?_); rintro e w16 ⟨rfl, hb⟩; have n0_ := Aside0.mk (below_step (by repeat (first | (with_reducible first | exact HB.out | apply below_alloc | apply pw_below_drewN | apply below_drew1) | exact HB.out)) hb); clear HB; have HB := n0_; clear n0_; (try clear hb); (try clear hb2); (try clear hk); (try clear hi)) | (go_at_call 28; (with_reducible refine (flintref2_Quote.calls k a0 t294 _ A15.out).mono ?_); rintro e w17 ⟨rfl, hb⟩; have n0_ := Aside0.mk (below_step (by repeat (first | (with_reducible first | exact HB.out | apply below_alloc | apply pw_below_drewN | apply below_drew1) | exact HB.out)) hb); clear HB; have HB := n0_; clear n0_; (try clear hb); (try clear hb2); (try clear hk); (try clear hi)))
            go_meet
            case rel => exact ⟨_, ((t293.toList != t294.toList)), (by first | rfl | (simp; done) | (simp [*]; done)), H', ⟨by first | omega | exact Nat.le_refl _⟩, ⟨by repeat (first | (with_reducible first | exact HB.out | apply below_alloc | apply pw_below_drewN | apply below_drew1) | exact HB.out)⟩⟩
          · rw [if_neg c13] at H
            have c13b0 : (t290 == t292) = false := beq_eq_false_iff_ne.mpr c13
            have c13b1 : (t290 != t292) = true := bne_iff_ne.mpr c13
            have H' := Aside0.mk H
            clear H
            go_wp2
            go_meet
            case rel => exact ⟨_, (true), (by first | rfl | (simp; done) | (simp [*]; done)), H', ⟨by first | omega | exact Nat.le_refl _⟩, ⟨by repeat (first | (with_reducible first | exact HB.out | apply below_alloc | apply pw_below_drewN | apply below_drew1) | exact HB.out)⟩⟩
        · rw [if_neg c12] at H
          have c12b0 : (t289.toList == t291.toList) = false := beq_eq_false_iff_ne.mpr c12
          have c12b1 : (t289.toList != t291.toList) = true := bne_iff_ne.mpr c12
          (first | rw [c12b0] | (simp only [i64_w, i32_w]; rw [c12b0]) | skip)
          have H' := Aside0.mk H
          clear H
          go_wp2
          go_meet
          case rel => exact ⟨_, (true), (by first | rfl | (simp; done) | (simp [*]; done)), H', ⟨by first | omega | exact Nat.le_refl _⟩, ⟨by repeat (first | (with_reducible first | exact HB.out | apply below_alloc | apply pw_below_drewN | apply below_drew1) | exact HB.out)⟩⟩
      case rest =>
        clear HC8
        try clear c1
        try clear c2
        try clear p2
        try clear c3
        try clear c4
        try clear c4b0
        try clear c4b1
        try clear c8
        try clear c10
        try clear c12
        try clear c12b0
        try clear c12b1
        try clear c13
        try clear c13b0
        try clear c13b1
        obtain ⟨kq, x36_7, rfl, HA, HJ7, HB⟩ := hcut
        cases kq with
        | zero => exact absurd HA.out (by simp [flintlaw2_NameQuotes.j0])
        | succ kj7 =>
          have H := HA.out
          clear HA
          simp only [flintlaw2_NameQuotes.j0] at H
          by_cases c18 : x36_7 = true
          · subst c18
            have H1 : (some false) = some r := by rw [if_pos rfl] at H; exact H
            clear H
            have H := H1
            clear H1
            obtain rfl := Option.some.inj H
            go_wp2
            go_ret
            exact ⟨by first | rfl | (simp [errW_none, errW_some] <;> rfl) | (simp [*, errW_none, errW_some] <;> rfl), by repeat (first | (with_reducible first | exact HB.out | apply below_alloc | apply pw_below_drewN | apply below_drew1) | exact HB.out)⟩
          · replace c18 := Bool.eq_false_iff.mpr c18
            subst c18
            have H1 : ((name_Quote.f a0).bind fun t295 => ((name_Unquote.f kj7 t295).bind fun bt296 => (if bt296.2 = 0 then (some (bt296.1.toList == a0.toList)) else (some false)))) = some r := by rw [if_neg (show ¬ (false = true) by decide)] at H; exact H
            clear H
            have H := H1
            clear H1
            replace H := Option.bind_eq_some_iff.mp H
            obtain ⟨t295, A190, H⟩ := H
            replace H : ((name_Unquote.f kj7 t295).bind fun bt296 => (if bt296.2 = 0 then (some (bt296.1.toList == a0.toList)) else (some false))) = some r := H
            have A19 := Aside0.mk A190
            clear A190
            replace H := Option.bind_eq_some_iff.mp H
            obtain ⟨⟨t296, t297⟩, A200, H⟩ := H
            replace H : (if t297 = 0 then (some (t296.toList == a0.toList)) else (some false)) = some r := H
            have A20 := Aside0.mk A200
            clear A200
            by_cases c21 : t297 = 0
            · rw [if_pos c21] at H
              have c21b0 : (t297 == 0) = true := beq_iff_eq.mpr c21
              have c21b1 : (t297 != 0) = false := bne_eq_false_iff_eq.mpr c21
              clear c21
              obtain rfl := Option.some.inj H
              go_wp2_with (first | ((with_reducible refine gate_callee (f := 21) rfl ?_); refine goesL_ (some 39) rfl rfl Tryd.func21 (by kernel_rfl) rfl #[.string a0] rfl (by (try simp only [List.map_toArray, List.map_cons, List.map_nil]); first | done | rfl | (simp only [List.length_drop, List.length_take]; rfl)) ?_; (with_reducible refine (name_Quote.calls a0 t295 _ A19.out).mono ?_); rintro e w22 ⟨rfl, hb⟩; refine ⟨_, rfl, ?_⟩; have n0_ := Aside0.mk (below_step (by repeat (first | (with_reducible first | exact HB.out | apply below_alloc | apply pw_below_drewN | apply below_drew1) | exact HB.out)) hb); clear HB; have HB := n0_; clear n0_; (try clear hb); (try clear hb2); (try clear hk); (try clear hi)) | ((with_reducible refine gate_callee (f := 26) rfl ?_); refine goesL_ (some 40) rfl rfl Tryd.func26 (by kernel_rfl) rfl #[.string t295] rfl (by (try simp only [List.map_toArray, List.map_cons, List.map_nil]); first | done | rfl | (simp only [List.length_drop, List.length_take]; rfl)) ?_; (with_reducible refine (name_Unquote.calls kj7 t295 t296 t297 _ A20.out).mono ?_); rintro e w23 ⟨rfl, hb⟩; refine ⟨_, rfl, ?_⟩; have n0_ := Aside0.mk (below_step (by repeat (first | (with_reducible first | exact HB.out | apply below_alloc | apply pw_below_drewN | apply below_drew1) | exact HB.out)) hb); clear HB; have HB := n0_; clear n0_; (try clear hb); (try clear hb2); (try clear hk); (try clear hi)))
              go_ret
              exact ⟨by first | rfl | (simp [errW_none, errW_some] <;> rfl) | (simp [*, errW_none, errW_some] <;> rfl), by repeat (first | (with_reducible first | exact HB.out | apply below_alloc | apply pw_below_drewN | apply below_drew1) | exact HB.out)⟩
            · rw [if_neg c21] at H
              have c21b0 : (t297 == 0) = false := beq_eq_false_iff_ne.mpr c21
              have c21b1 : (t297 != 0) = true := bne_iff_ne.mpr c21
              obtain rfl := Option.some.inj H
              go_wp2_with (first | ((with_reducible refine gate_callee (f := 21) rfl ?_); refine goesL_ (some 39) rfl rfl Tryd.func21 (by kernel_rfl) rfl #[.string a0] rfl (by (try simp only [List.map_toArray, List.map_cons, List.map_nil]); first | done | rfl | (simp only [List.length_drop, List.length_take]; rfl)) ?_; (with_reducible refine (name_Quote.calls a0 t295 _ A19.out).mono ?_); rintro e w24 ⟨rfl, hb⟩; refine ⟨_, rfl, ?_⟩; have n0_ := Aside0.mk (below_step (by repeat (first | (with_reducible first | exact HB.out | apply below_alloc | apply pw_below_drewN | apply below_drew1) | exact HB.out)) hb); clear HB; have HB := n0_; clear n0_; (try clear hb); (try clear hb2); (try clear hk); (try clear hi)) | ((with_reducible refine gate_callee (f := 26) rfl ?_); refine goesL_ (some 40) rfl rfl Tryd.func26 (by kernel_rfl) rfl #[.string t295] rfl (by (try simp only [List.map_toArray, List.map_cons, List.map_nil]); first | done | rfl | (simp only [List.length_drop, List.length_take]; rfl)) ?_; (with_reducible refine (name_Unquote.calls kj7 t295 t296 t297 _ A20.out).mono ?_); rintro e w25 ⟨rfl, hb⟩; refine ⟨_, rfl, ?_⟩; have n0_ := Aside0.mk (below_step (by repeat (first | (with_reducible first | exact HB.out | apply below_alloc | apply pw_below_drewN | apply below_drew1) | exact HB.out)) hb); clear HB; have HB := n0_; clear n0_; (try clear hb); (try clear hb2); (try clear hk); (try clear hi)))
              go_ret
              exact ⟨by first | rfl | (simp [errW_none, errW_some] <;> rfl) | (simp [*, errW_none, errW_some] <;> rfl), by repeat (first | (with_reducible first | exact HB.out | apply below_alloc | apply pw_below_drewN | apply below_drew1) | exact HB.out)⟩
  · replace c3 := Bool.eq_false_iff.mpr c3
    subst c3
    have H1 : (some false) = some r := by rw [if_neg (show ¬ (false = true) by decide)] at H; exact H
    clear H
    have H := H1
    clear H1
    obtain rfl := Option.some.inj H
    go_enter Tryd.func8, Tryd.ntmps8
    go_wp2_with (first | ((with_reducible refine gate_callee (f := 10) rfl ?_); refine goesL_ (some 7) rfl rfl Tryd.func10 (by kernel_rfl) rfl #[] rfl (by (try simp only [List.map_toArray, List.map_cons, List.map_nil]); first | done | rfl | (simp only [List.length_drop, List.length_take]; rfl)) ?_; (with_reducible refine (flintlaw2_known.calls k  false _ A2.out).mono ?_); rintro e w26 ⟨rfl, hb⟩; refine ⟨_, rfl, ?_⟩; have n0_ := Aside0.mk (below_step (by repeat (first | (with_reducible first | exact HB.out | apply below_alloc | apply pw_below_drewN | apply below_drew1) | exact HB.out)) hb); clear HB; have HB := n0_; clear n0_; (try clear hb); (try clear hb2); (try clear hk); (try clear hi)))
    go_ret
    exact ⟨by first | rfl | (simp [errW_none, errW_some] <;> rfl) | (simp [*, errW_none, errW_some] <;> rfl), by repeat (first | (with_reducible first | exact HB.out | apply below_alloc | apply pw_below_drewN | apply below_drew1) | exact HB.out)⟩

/-- THE ONE PURE STATEMENT of flintlaw2_NameQuotes: yours. -/
def flintlaw2_NameQuotes.Pure : Prop := ∀ (a0 : ByteArray), a0.size ≤ 140737488351232 → ∃ k, flintlaw2_NameQuotes.f k a0 = some true
theorem flintlaw2_NameQuotes.walk (P : flintlaw2_NameQuotes.Pure) (a0 : ByteArray) (w : World) (w0 : a0.size ≤ 140737488351232) (hT : Aside0 (Tabs w)) :
    Calls Tryd.prog 8 #[.string a0] w fun e w' => e = .returned (.bool true) ∧ Below w.heap.size w w' := by
  obtain ⟨k, h⟩ := P a0 w0
  refine (flintlaw2_NameQuotes.calls k a0 true w h hT).mono ?_
  rintro e w' ⟨rfl, hd⟩
  exact ⟨rfl, hd⟩


end Go.Proofs.YtacdiamflgcnbaaDoor.PNa
